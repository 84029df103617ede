-- Written by xprint.py, a program of this work, round the kit's print.
/- What sweep's functions answer, plainly, second part: how many places some have; the depth; the pairs. -/
import Derived.Test.YtjehhfhkbboamaaPx0
import Derived.Test.YtjehhfhkbboamaaPx3
import Derived.Test.YtjehhfhkbboamaaPx6
import Derived.Test.YtjehhfhkbboamaaPx7
import Derived.Test.YtjehhfhkbboamaaPx8
import Derived.Test.YtjehhfhkbboamaaPx9
import Derived.Test.YtjehhfhkbboamaaLSweep
import Derived.Test.YtjehhfhkbboamaaXOpens
import Derived.Test.YtjehhfhkbboamaaXTall
import Derived.IntWalk
import Derived.Laws.BitsAllLaws
import Derived.Laws.BitsLemmas
import Derived.OpenShut
namespace Go.Proofs.Ytjehhfhkbboamaa.P
open Go.RowKit Go.Proofs.YtjehhfhkbboamaaW.PrintWords Go.Proofs.YtjehhfhkbboamaaW.PrintLast Go.Proofs.YtjehhfhkbboamaaW.PrintMore
attribute [local go_sem] max2_int min2_int max_two min_two max_three min_three max_four min_four   -- for this text's walks alone
attribute [local go_sem] add64_run carryOk_zero   -- for this text's walks alone
set_option linter.unusedVariables false
set_option linter.unusedSimpArgs false

theorem BIG_int : (BIG : Int) = 4294967296 := rfl
theorem lt64 {a : Int} (h0 : 0 ≤ a) (h1 : a ≤ 4294967296) : 0 ≤ a ∧ a < 18446744073709551616 := ⟨h0, by omega⟩
theorem col_bd' (l : List S28) (x : Int) : 0 ≤ col l x ∧ col l x ≤ 4294967296 := by
  have h := col_bd l x
  rw [BIG_int] at h
  exact h
theorem area_bd' (l : List S28) : 0 ≤ area l ∧ area l ≤ 18446744073709551616 := by
  have h := area_bd l
  rw [BIG_int] at h
  exact ⟨h.1, Int.le_trans h.2 (by decide)⟩
theorem and_mask (a : Int) (h0 : 0 ≤ a) (h1 : a < 18446744073709551616) : Go.bits .and .u64 a 4294967295 = a % 4294967296 := by
  rw [u64_and a 4294967295 h0 (by omega) (by decide) (by decide)]
  have h := Nat.and_two_pow_sub_one_eq_mod a.toNat 32
  have e : (4294967295 : Int).toNat = 2 ^ 32 - 1 := by decide
  rw [e, h]
  omega
theorem mul_lt (a b : Int) (ha : 0 ≤ a ∧ a ≤ 4294967295) (hb : 0 ≤ b ∧ b ≤ 4294967295) : 0 ≤ a * b ∧ a * b ≤ 18446744065119617025 := by
  have h2 : a * b ≤ 4294967295 * 4294967295 := Int.mul_le_mul ha.2 hb.2 hb.1 (by decide)
  exact ⟨Int.mul_nonneg ha.1 hb.1, by omega⟩
theorem mul64_val (a b : Int) (ha : 0 ≤ a ∧ a < 18446744073709551616) (hb : 0 ≤ b ∧ b < 18446744073709551616) : bits_Mul64.f a b = some (a * b / 18446744073709551616, a * b % 18446744073709551616) := by
  unfold bits_Mul64.f
  rw [and_mask a ha.1 ha.2, and_mask b hb.1 hb.2]
  obtain ⟨a1, ha1⟩ : ∃ a1, a1 = a / 4294967296 := ⟨_, rfl⟩
  obtain ⟨a0, ha0⟩ : ∃ a0, a0 = a % 4294967296 := ⟨_, rfl⟩
  obtain ⟨b1, hb1⟩ : ∃ b1, b1 = b / 4294967296 := ⟨_, rfl⟩
  obtain ⟨b0, hb0⟩ : ∃ b0, b0 = b % 4294967296 := ⟨_, rfl⟩
  rw [← ha1, ← ha0, ← hb1, ← hb0]
  have p11 := mul_lt a1 b1 (by omega) (by omega)
  have p10 := mul_lt a1 b0 (by omega) (by omega)
  have p01 := mul_lt a0 b1 (by omega) (by omega)
  have p00 := mul_lt a0 b0 (by omega) (by omega)
  have hab : a * b = a1 * b1 * 18446744073709551616 + a1 * b0 * 4294967296 + a0 * b1 * 4294967296 + a0 * b0 := by
    have e1 : a = a1 * 4294967296 + a0 := by omega
    have e2 : b = b1 * 4294967296 + b0 := by omega
    rw [e1, e2]
    grind
  rw [hab]
  generalize a1 * b1 = q11 at p11 ⊢
  generalize a1 * b0 = q10 at p10 ⊢
  generalize a0 * b1 = q01 at p01 ⊢
  generalize a0 * b0 = q00 at p00 ⊢
  have w1 : IntKind.u64.wrap q00 = q00 := u64_id _ (by omega) (by omega)
  have w2 : IntKind.u64.wrap q10 = q10 := u64_id _ (by omega) (by omega)
  have w3 : IntKind.u64.wrap q01 = q01 := u64_id _ (by omega) (by omega)
  have w4 : IntKind.u64.wrap q11 = q11 := u64_id _ (by omega) (by omega)
  have w5 : IntKind.u64.wrap (q10 + q00 / 4294967296) = q10 + q00 / 4294967296 := u64_id _ (by omega) (by omega)
  have w6 : Go.bits .and .u64 (q10 + q00 / 4294967296) 4294967295 = (q10 + q00 / 4294967296) % 4294967296 := and_mask _ (by omega) (by omega)
  have w7 : IntKind.u64.wrap ((q10 + q00 / 4294967296) % 4294967296 + q01) = (q10 + q00 / 4294967296) % 4294967296 + q01 := u64_id _ (by omega) (by omega)
  have w8 : IntKind.u64.wrap (q11 + (q10 + q00 / 4294967296) / 4294967296) = q11 + (q10 + q00 / 4294967296) / 4294967296 := u64_id _ (by omega) (by omega)
  rw [w1, w2, w3, w4, w5, w6, w7, w8]
  have w9 : IntKind.u64.wrap (q11 + (q10 + q00 / 4294967296) / 4294967296 + ((q10 + q00 / 4294967296) % 4294967296 + q01) / 4294967296) = (q11 * 18446744073709551616 + q10 * 4294967296 + q01 * 4294967296 + q00) / 18446744073709551616 := by
    rw [u64_id _ (by omega) (by omega)]
    omega
  rw [w9]
  rw [IntKind.wrap_u64]
/-! ### a column -/
theorem seg_nonneg (f : Int → Int) (hf : ∀ x, 0 ≤ f x) : ∀ (l : List Int), l.Pairwise (· < ·) → 0 ≤ seg f l := by
  intro l
  induction l with
  | nil => intro _; simp [seg]
  | cons a l ih =>
    intro h
    cases l with
    | nil => simp [seg]
    | cons b r =>
      have h2 := List.pairwise_cons.1 h
      have hab := h2.1 b (by simp)
      have h3 := ih h2.2
      have h4 : 0 ≤ (b - a) * f a := Int.mul_nonneg (by omega) (hf a)
      simp only [seg]
      omega
theorem tallSum_eq (l : List S28) (x : Int) : ∀ (ys : List Int) (s : Int), ys.Pairwise (· < ·) → (∀ c ∈ ys, 0 ≤ c ∧ c ≤ 4294967296) → 0 ≤ s → s + seg (val l x) ys < 18446744073709551616 → tallSum l x s ys = s + seg (val l x) ys := by
  intro ys
  induction ys with
  | nil => intro s _ _ _ _; simp [tallSum, seg]
  | cons a r ih =>
    intro s hp hm h0 hb
    cases r with
    | nil => simp [tallSum, seg]
    | cons b r =>
      have h2 := List.pairwise_cons.1 hp
      have hab := h2.1 b (by simp)
      have ha := hm a (by simp)
      have hb' := hm b (by simp)
      have hn := seg_nonneg (val l x) (fun y => (val_bd l x y).1) (b :: r) h2.2
      simp only [tallSum, seg] at hb ⊢
      rw [show a % 4294967296 = a from by omega]
      by_cases hh : (l.any fun q => hasR q x a) = true
      · have hv : val l x a = 1 := by unfold val hasAt; rw [if_pos hh]
        rw [hv] at hb ⊢
        rw [if_pos hh, u64_id (b - a) (by omega) (by omega), u64_id (s + (b - a)) (by omega) (by omega)]
        rw [ih (s + (b - a)) h2.2 (fun c hc => hm c (List.mem_cons_of_mem _ hc)) (by omega) (by omega)]
        omega
      · have hv : val l x a = 0 := by unfold val hasAt; rw [if_neg hh]
        rw [hv] at hb ⊢
        rw [if_neg hh, ih s h2.2 (fun c hc => hm c (List.mem_cons_of_mem _ hc)) h0 (by omega)]
        omega
theorem cutY_len (l : List S28) : (cutY l).length ≤ 2 * l.length := by
  have h := compact_le (isort (flatY l))
  rw [(isort_perm _).length_eq] at h
  unfold cutY
  have : (flatY l).length = 2 * l.length := len_flat _ _ l
  omega
theorem cutX_len (l : List S28) : (cutX l).length ≤ 2 * l.length := by
  have h := compact_le (isort (flatX l))
  rw [(isort_perm _).length_eq] at h
  unfold cutX
  have : (flatX l).length = 2 * l.length := len_flat _ _ l
  omega
theorem cutY_bd {l : List S28} (hl : ∀ a ∈ l, okR a) : ∀ c ∈ cutY l, 0 ≤ c ∧ c ≤ 4294967296 := by
  intro c hc
  obtain ⟨a, ha, h⟩ := ((isY l).2 c).1 hc
  have := hl a ha
  unfold okR BIG at this
  omega
theorem cutX_bd {l : List S28} (hl : ∀ a ∈ l, okR a) : ∀ c ∈ cutX l, 0 ≤ c ∧ c ≤ 4294967296 := by
  intro c hc
  obtain ⟨a, ha, h⟩ := ((isX l).2 c).1 hc
  have := hl a ha
  unfold okR BIG at this
  omega
theorem tall_val {l : List S28} (hn : l.length ≤ 1000) (hl : ∀ a ∈ l, okR a) (x : Int) : tall.f l x (cutY l) = some (col l x) := by
  unfold tall.f
  have := cutY_len l
  rw [if_pos (by omega)]
  have hb := col_bd' l x
  rw [tallSum_eq l x (cutY l) 0 (isY l).1 (cutY_bd hl) (by omega) (by rw [col_seg hl (isY l)]; omega), col_seg hl (isY l)]
  simp
/-! ### how many places -/
def unionV (l : List S28) : Int × Bool := if area l < 18446744073709551616 then (area l, true) else (0, false)
theorem rd_at (l : List Int) {i : Nat} (h : i < l.length) : rd l (i : Int) = l[i] := by
  unfold rd
  rw [Int.toNat_natCast, List.getD_eq_getElem?_getD, List.getElem?_eq_getElem h]
  rfl
theorem union_loop {l : List S28} (hn : l.length ≤ 1000) (hl : ∀ a ∈ l, okR a) : ∀ (m i : Nat) (T : Int), (cutX l).length ≤ i + m → 1 ≤ i → i ≤ 100000 → 0 ≤ T → T + seg (col l) ((cutX l).drop (i - 1)) = area l →
    Ev (fun k => sweep_Union.l0 k l (cutX l) (cutY l) (T % 18446744073709551616) (T / 18446744073709551616) (i : Int)) (unionV l) := by
  have hA := area_bd' l
  have hlen := cutX_len l
  intro m
  induction m with
  | zero =>
    intro i T hi h1 hi2 hT hS
    have hd : seg (col l) ((cutX l).drop (i - 1)) = 0 := by
      have h2 : ((cutX l).drop (i - 1)).length ≤ 1 := by rw [List.length_drop]; omega
      match h3 : (cutX l).drop (i - 1), h2 with
      | [], _ => rfl
      | [a], _ => rfl
    rw [hd] at hS
    refine Ev.step (fun k => ?_) (Ev.now _)
    simp only [sweep_Union.l0]
    rw [if_neg (by omega)]
    unfold unionV
    by_cases h : area l < 18446744073709551616
    · rw [if_neg (by omega), if_pos h, show T % 18446744073709551616 = area l from by omega]
    · rw [if_pos (by omega), if_neg h]
  | succ m ih =>
    intro i T hi h1 hi2 hT hS
    by_cases hlt : i < (cutX l).length
    · have hp := (isX l).1
      have hb := cutX_bd hl
      have hd1 : (cutX l).drop (i - 1) = (cutX l)[i - 1] :: (cutX l)[i] :: (cutX l).drop (i + 1) := by
        rw [List.drop_eq_getElem_cons (show i - 1 < (cutX l).length by omega), show i - 1 + 1 = i from by omega, List.drop_eq_getElem_cons hlt]
      have hd2 : (cutX l).drop i = (cutX l)[i] :: (cutX l).drop (i + 1) := List.drop_eq_getElem_cons hlt
      have hab : (cutX l)[i - 1] < (cutX l)[i] := List.pairwise_iff_getElem.1 hp (i - 1) i (by omega) hlt (by omega)
      have ha := hb _ (List.getElem_mem (show i - 1 < (cutX l).length by omega))
      have hb' := hb _ (List.getElem_mem hlt)
      rw [hd1] at hS
      simp only [seg] at hS
      have hc := col_bd' l (cutX l)[i - 1]
      have hq0 : 0 ≤ ((cutX l)[i] - (cutX l)[i - 1]) * col l (cutX l)[i - 1] := Int.mul_nonneg (by omega) hc.1
      have hsn := seg_nonneg (col l) (fun x => (col_bd l x).1) ((cutX l).drop i) (List.Pairwise.sublist (List.drop_sublist _ _) hp)
      rw [hd2] at hsn
      have hmul : bits_Mul64.f ((cutX l)[i] - (cutX l)[i - 1]) (col l (cutX l)[i - 1]) = _ := mul64_val _ _ (lt64 (by omega) (by omega)) (lt64 hc.1 hc.2)
      generalize hp2 : ((cutX l)[i] - (cutX l)[i - 1]) * col l (cutX l)[i - 1] = p at hS hq0 hmul
      have h := ih (i + 1) (T + p) (by omega) (by omega) (by omega) (by omega) (by
        rw [show i + 1 - 1 = i from by omega, hd2]
        rw [show ∀ a b : Int, T + p + b = T + (p + b) from fun a b => by omega]
        · exact hS
        · exact 0)
      refine Ev.step (fun k => ?_) h
      simp only [sweep_Union.l0]
      have hw : wrap64 ((i : Int) - 1) = ((i - 1 : Nat) : Int) := by unfold wrap64; omega
      rw [if_pos (by omega), hw, if_pos (by omega), if_pos (by omega), if_pos (by omega), rd_at _ (show i - 1 < (cutX l).length by omega), rd_at _ hlt]
      rw [show (cutX l)[i - 1] % 4294967296 = (cutX l)[i - 1] from by omega, tall_val hn hl]
      simp only [Option.bind_some]
      rw [u64_id ((cutX l)[i] - (cutX l)[i - 1]) (by omega) (by omega), hmul]
      simp only [Option.bind_some]
      rw [wrap_succ i (by omega)]
      have e1 : addLo (T % 18446744073709551616) (p % 18446744073709551616) 0 = (T + p) % 18446744073709551616 := by unfold addLo; simp only [Int.toNat_zero]; omega
      have e2 : addHi (T % 18446744073709551616) (p % 18446744073709551616) 0 = (T % 18446744073709551616 + p % 18446744073709551616) / 18446744073709551616 := by unfold addHi; simp only [Int.toNat_zero]; omega
      have e3 : IntKind.u64.wrap (IntKind.u64.wrap (T / 18446744073709551616 + p / 18446744073709551616) + addHi (T % 18446744073709551616) (p % 18446744073709551616) 0) = (T + p) / 18446744073709551616 := by
        rw [e2, u64_id (T / 18446744073709551616 + p / 18446744073709551616) (by omega) (by omega), u64_id _ (by omega) (by omega)]
        omega
      rw [e1, e3]
    · exact ih i T (by omega) h1 hi2 hT hS
theorem fullL_mem {l : List S28} {a : S28} (h : a ∈ fullL l) : a ∈ l := (List.mem_filter.1 h).1
theorem union_val (l : List S28) (hn : l.length ≤ 400) (hl : ∀ a ∈ l, okR a) : Ev (fun k => sweep_Union.f k l) (unionV (fullL l)) := by
  have hf : (fullL l).length ≤ 400 := Nat.le_trans (List.length_filter_le _ _) hn
  have hl' : ∀ a ∈ fullL l, okR a := fun a ha => hl a (fullL_mem ha)
  refine Ev.bind (full_val l (by omega)) (Ev.bind (cutsX_val _ hf hl') (Ev.bind (cutsY_val _ hf hl') ?_))
  have hlen := cutX_len (fullL l)
  have := union_loop (l := fullL l) (by omega) hl' ((cutX (fullL l)).length) 1 0 (by omega) (by omega) (by omega) (by omega) (by
    rw [Nat.sub_self, List.drop_zero, area_seg hl' (isX _)]; omega)
  simpa using this
/-! ### the depth -/
def cnt (l : List S28) (x y : Int) : Int := ((l.filter fun a => hasR a x y).length : Int)
def depthRow (l : List S28) (a : S28) (m : Int) (r : List S28) : Int := r.foldl (fun m b => mx m (cnt l a.f0 b.f1)) m
def depthOf (l : List S28) (m : Int) (r : List S28) : Int := r.foldl (fun m a => depthRow l a m l) m
theorem depth_l2 {l : List S28} (hn : l.length ≤ 1000) {r : Int} (i j : Nat) (a b : S28) (most : Int) : ∀ (m t : Nat) (n : Int), t + m = l.length → 0 ≤ n → n ≤ t →
    Ev (fun k => sweep_Depth.l1 k l (mx most (n + cnt (l.drop t) a.f0 b.f1)) (l.length : Int) (i : Int) (l.length : Int) ((j + 1 : Nat) : Int) a.f0 a.f1 a.f2 a.f3) r →
    j < 100000 → Ev (fun k => sweep_Depth.l2 k l most n (l.length : Int) (i : Int) (l.length : Int) (j : Int) (l.length : Int) (t : Int) a.f0 a.f1 a.f2 a.f3 b.f0 b.f1 b.f2 b.f3) r := by
  intro m
  induction m with
  | zero =>
    intro t n ht h0 h1 h hj
    rw [List.drop_of_length_le (by omega)] at h
    refine Ev.step (fun k => ?_) h
    simp only [sweep_Depth.l2]
    rw [if_neg (by omega), wrap_succ j (by omega)]
    simp [cnt]
  | succ m ih =>
    intro t n ht h0 h1 h hj
    have htl : t < l.length := by omega
    have hd : l.drop t = l[t] :: l.drop (t + 1) := List.drop_eq_getElem_cons htl
    rw [hd] at h
    by_cases hh : hasR l[t] a.f0 b.f1 = true
    · have hc : n + cnt (l[t] :: l.drop (t + 1)) a.f0 b.f1 = (n + 1) + cnt (l.drop (t + 1)) a.f0 b.f1 := by
        unfold cnt; rw [List.filter_cons, if_pos hh, List.length_cons]; omega
      rw [hc] at h
      refine Ev.step (fun k => ?_) (ih (t + 1) (n + 1) (by omega) (by omega) (by omega) h hj)
      simp only [sweep_Depth.l2]
      rw [if_pos (by omega), if_pos (by omega), if_pos (by omega), rd28 l htl, rect_Has_val]
      simp only [Option.bind_some]
      rw [if_pos hh, wrap_succ t (by omega), show wrap64 (n + 1) = n + 1 from by unfold wrap64; omega]
    · have hc : n + cnt (l[t] :: l.drop (t + 1)) a.f0 b.f1 = n + cnt (l.drop (t + 1)) a.f0 b.f1 := by
        unfold cnt; rw [List.filter_cons, if_neg hh]
      rw [hc] at h
      refine Ev.step (fun k => ?_) (ih (t + 1) n (by omega) h0 (by omega) h hj)
      simp only [sweep_Depth.l2]
      rw [if_pos (by omega), if_pos (by omega), if_pos (by omega), rd28 l htl, rect_Has_val]
      simp only [Option.bind_some]
      rw [if_neg hh, wrap_succ t (by omega)]
theorem depth_l1 {l : List S28} (hn : l.length ≤ 1000) {r : Int} (i : Nat) (a : S28) (hi : i < 100000) : ∀ (m j : Nat) (most : Int), j + m = l.length →
    Ev (fun k => sweep_Depth.l0 k l (depthRow l a most (l.drop j)) (l.length : Int) ((i + 1 : Nat) : Int)) r →
    Ev (fun k => sweep_Depth.l1 k l most (l.length : Int) (i : Int) (l.length : Int) (j : Int) a.f0 a.f1 a.f2 a.f3) r := by
  intro m
  induction m with
  | zero =>
    intro j most hj h
    rw [List.drop_of_length_le (by omega)] at h
    refine Ev.step (fun k => ?_) h
    simp only [sweep_Depth.l1]
    rw [if_neg (by omega), wrap_succ i (by omega)]
    rfl
  | succ m ih =>
    intro j most hj h
    have hjl : j < l.length := by omega
    have hd : l.drop j = l[j] :: l.drop (j + 1) := List.drop_eq_getElem_cons hjl
    rw [hd] at h
    have h2 := ih (j + 1) (mx most (cnt l a.f0 l[j].f1)) (by omega) h
    have h3 := depth_l2 hn i j a l[j] most l.length 0 0 (by omega) (by omega) (by omega) (by rw [List.drop_zero, Int.zero_add]; exact h2) (by omega)
    refine Ev.step (fun k => ?_) h3
    simp only [sweep_Depth.l1]
    rw [if_pos (by omega), if_pos (by omega), if_pos (by omega), rd28 l hjl]
    rfl
theorem depth_l0 {l : List S28} (hn : l.length ≤ 1000) : ∀ (m i : Nat) (most : Int), i + m = l.length → Ev (fun k => sweep_Depth.l0 k l most (l.length : Int) (i : Int)) (depthOf l most (l.drop i)) := by
  intro m
  induction m with
  | zero =>
    intro i most hi
    rw [List.drop_of_length_le (by omega)]
    refine Ev.step (fun k => ?_) (Ev.now _)
    simp only [sweep_Depth.l0]
    rw [if_neg (by omega)]
    rfl
  | succ m ih =>
    intro i most hi
    have hil : i < l.length := by omega
    have hd : l.drop i = l[i] :: l.drop (i + 1) := List.drop_eq_getElem_cons hil
    have h2 := ih (i + 1) (depthRow l l[i] most l) (by omega)
    have e : depthOf l most (l.drop i) = depthOf l (depthRow l l[i] most l) (l.drop (i + 1)) := by rw [hd]; rfl
    rw [e]
    have h3 := depth_l1 hn i l[i] (by omega) l.length 0 most (by omega) (by rw [List.drop_zero]; exact h2)
    refine Ev.step (fun k => ?_) h3
    simp only [sweep_Depth.l0]
    rw [if_pos (by omega), if_pos (by omega), if_pos (by omega), rd28 l hil]
    rfl
theorem depth_val (l : List S28) (hn : l.length ≤ 1000) : Ev (fun k => sweep_Depth.f k l) (depthOf (fullL l) 0 (fullL l)) := by
  have hf : (fullL l).length ≤ 1000 := Nat.le_trans (List.length_filter_le _ _) hn
  exact Ev.bind (full_val l hn) (depth_l0 hf (fullL l).length 0 0 (by omega))
theorem mx_le {a b c : Int} : mx a b ≤ c ↔ a ≤ c ∧ b ≤ c := by unfold mx; split <;> omega
theorem mx_cases (a b : Int) : mx a b = a ∨ mx a b = b := by unfold mx; split <;> simp
theorem le_mx (a b : Int) : a ≤ mx a b ∧ b ≤ mx a b := by unfold mx; split <;> omega
theorem depthRow_spec (l : List S28) (a : S28) : ∀ (r : List S28) (m : Int), m ≤ depthRow l a m r ∧ (∀ b ∈ r, cnt l a.f0 b.f1 ≤ depthRow l a m r) ∧ (depthRow l a m r = m ∨ ∃ b ∈ r, depthRow l a m r = cnt l a.f0 b.f1) := by
  intro r
  induction r with
  | nil => intro m; exact ⟨Int.le_refl _, by simp, .inl rfl⟩
  | cons b r ih =>
    intro m
    obtain ⟨h1, h2, h3⟩ := ih (mx m (cnt l a.f0 b.f1))
    have hm := le_mx m (cnt l a.f0 b.f1)
    have e : depthRow l a m (b :: r) = depthRow l a (mx m (cnt l a.f0 b.f1)) r := rfl
    rw [e]
    refine ⟨by omega, fun c hc => ?_, ?_⟩
    · rcases List.mem_cons.1 hc with rfl | hc
      · omega
      · exact h2 c hc
    · rcases h3 with h3 | ⟨c, hc, h3⟩
      · rcases mx_cases m (cnt l a.f0 b.f1) with h4 | h4
        · exact .inl (h3.trans h4)
        · exact .inr ⟨b, by simp, h3.trans h4⟩
      · exact .inr ⟨c, List.mem_cons_of_mem _ hc, h3⟩
theorem depthOf_spec (l : List S28) : ∀ (r : List S28) (m : Int), m ≤ depthOf l m r ∧ (∀ a ∈ r, ∀ b ∈ l, cnt l a.f0 b.f1 ≤ depthOf l m r) ∧ (depthOf l m r = m ∨ ∃ a ∈ r, ∃ b ∈ l, depthOf l m r = cnt l a.f0 b.f1) := by
  intro r
  induction r with
  | nil => intro m; exact ⟨Int.le_refl _, by simp, .inl rfl⟩
  | cons a r ih =>
    intro m
    obtain ⟨h1, h2, h3⟩ := ih (depthRow l a m l)
    obtain ⟨g1, g2, g3⟩ := depthRow_spec l a l m
    have e : depthOf l m (a :: r) = depthOf l (depthRow l a m l) r := rfl
    rw [e]
    refine ⟨by omega, fun c hc b hb => ?_, ?_⟩
    · rcases List.mem_cons.1 hc with rfl | hc
      · have := g2 b hb; omega
      · exact h2 c hc b hb
    · rcases h3 with h3 | ⟨c, hc, b, hb, h3⟩
      · rcases g3 with g3 | ⟨b, hb, g3⟩
        · exact .inl (h3.trans g3)
        · exact .inr ⟨a, by simp, b, hb, h3.trans g3⟩
      · exact .inr ⟨c, List.mem_cons_of_mem _ hc, b, hb, h3⟩
/-! ### the pairs -/
def cutR (a b : S28) : S28 := ⟨mx a.f0 b.f0, mx a.f1 b.f1, mn a.f2 b.f2, mn a.f3 b.f3⟩
def meetsB (a b : S28) : Bool := !empB a && !empB b && !empB (cutR a b)
theorem rect_Meets_val (a b : S28) : rect_Meets.f a.f0 a.f1 a.f2 a.f3 b.f0 b.f1 b.f2 b.f3 = some (meetsB a b) := by
  unfold rect_Meets.f rect_Cut.f
  have h1 := rect_Empty_val a
  have h2 := rect_Empty_val b
  have h3 := rect_Empty_val (cutR a b)
  have h4 : rect_Empty.f 1 1 0 0 = some true := by unfold rect_Empty.f; simp
  simp only [cutR] at h3
  rw [h1, h2, h3]
  unfold meetsB
  simp only [Option.bind_some, rect_none.f]
  cases empB a with
  | true => simp [h4]
  | false =>
    cases empB b with
    | true => simp [h4]
    | false =>
      cases hc : empB (cutR a b) with
      | true =>
        simp only [cutR] at hc
        simp [hc, h4]
      | false =>
        simp only [cutR] at hc
        simp [hc, h3]

def pairRow (l : List S28) (i : Nat) : List S35 := ((List.range' (i + 1) (l.length - (i + 1))).filter fun (j : Nat) => meetsB (rd_T28 l i) (rd_T28 l j)).map fun (j : Nat) => (⟨(i : Int), (j : Int)⟩ : S35)
def pairsFrom (l : List S28) (i : Nat) : List S35 := (List.range' i (l.length - i)).flatMap (pairRow l)
def pairsRow (l : List S28) (i j : Nat) : List S35 := ((List.range' j (l.length - j)).filter fun (t : Nat) => meetsB (rd_T28 l i) (rd_T28 l t)).map fun (t : Nat) => (⟨(i : Int), (t : Int)⟩ : S35)
theorem pairs_l1 {l : List S28} (hn : l.length ≤ 1000) {r : List S35} (i : Nat) (hi : i < l.length) : ∀ (m j : Nat) (out : List S35), j + m = l.length → out.length ≤ i * 1000 + j →
    Ev (fun k => sweep_Pairs.l0 k l (out ++ pairsRow l i j) l (l.length : Int) ((i + 1 : Nat) : Int)) r →
    Ev (fun k => sweep_Pairs.l1 k l out (i : Int) (j : Int) l (l.length : Int) (i : Int) (rd_T28 l i).f0 (rd_T28 l i).f1 (rd_T28 l i).f2 (rd_T28 l i).f3) r := by
  intro m
  induction m with
  | zero =>
    intro j out hj ho h
    have e : pairsRow l i j = [] := by unfold pairsRow; rw [show l.length - j = 0 from by omega]; rfl
    rw [e, List.append_nil] at h
    refine Ev.step (fun k => ?_) h
    simp only [sweep_Pairs.l1]
    rw [if_neg (by omega), wrap_succ i (by omega)]
  | succ m ih =>
    intro j out hj ho h
    have hjl : j < l.length := by omega
    have hr : List.range' j (l.length - j) = j :: List.range' (j + 1) (l.length - (j + 1)) := by
      rw [show l.length - j = l.length - (j + 1) + 1 from by omega, List.range'_succ]
    by_cases hm : meetsB (rd_T28 l i) (rd_T28 l j) = true
    · have e : out ++ pairsRow l i j = (out ++ [(⟨(i : Int), (j : Int)⟩ : S35)]) ++ pairsRow l i (j + 1) := by
        unfold pairsRow
        rw [hr, List.filter_cons, if_pos hm, List.map_cons, List.append_assoc]
        rfl
      rw [e] at h
      have h2 := ih (j + 1) (out ++ [(⟨(i : Int), (j : Int)⟩ : S35)]) (by omega) (by simp; omega) h
      refine Ev.step (fun k => ?_) h2
      simp only [sweep_Pairs.l1]
      rw [if_pos (by omega), if_pos (by omega), rect_Meets_val]
      simp only [Option.bind_some]
      have hb : out.length < 8796093022208 := by omega
      rw [if_pos hm, if_pos hb, wrap_succ j (by omega)]
    · have e : pairsRow l i j = pairsRow l i (j + 1) := by
        unfold pairsRow
        rw [hr, List.filter_cons, if_neg hm]
      rw [e] at h
      have h2 := ih (j + 1) out (by omega) (by omega) h
      refine Ev.step (fun k => ?_) h2
      simp only [sweep_Pairs.l1]
      rw [if_pos (by omega), if_pos (by omega), rect_Meets_val]
      simp only [Option.bind_some]
      rw [if_neg hm, wrap_succ j (by omega)]
theorem pairRow_len (l : List S28) (i : Nat) : (pairRow l i).length ≤ l.length - (i + 1) := by
  unfold pairRow
  rw [List.length_map]
  exact Nat.le_trans (List.length_filter_le _ _) (by rw [List.length_range']; exact Nat.le_refl _)
theorem pairs_l0 {l : List S28} (hn : l.length ≤ 1000) : ∀ (m i : Nat) (out : List S35), i + m = l.length → out.length ≤ i * 1000 →
    Ev (fun k => sweep_Pairs.l0 k l out l (l.length : Int) (i : Int)) (out ++ pairsFrom l i) := by
  intro m
  induction m with
  | zero =>
    intro i out hi ho
    have e : pairsFrom l i = [] := by unfold pairsFrom; rw [show l.length - i = 0 from by omega]; rfl
    rw [e, List.append_nil]
    refine Ev.step (fun k => ?_) (Ev.now _)
    simp only [sweep_Pairs.l0]
    rw [if_neg (by omega)]
  | succ m ih =>
    intro i out hi ho
    have hil : i < l.length := by omega
    have e : out ++ pairsFrom l i = (out ++ pairRow l i) ++ pairsFrom l (i + 1) := by
      unfold pairsFrom
      rw [show l.length - i = l.length - (i + 1) + 1 from by omega, List.range'_succ, List.flatMap_cons, List.append_assoc]
    rw [e]
    have hpl := pairRow_len l i
    have h := ih (i + 1) (out ++ pairRow l i) (by omega) (by rw [List.length_append, Nat.add_mul]; omega)
    have h2 := pairs_l1 hn i hil (l.length - (i + 1)) (i + 1) out (by omega) (Nat.le_trans ho (Nat.le_add_right _ _)) h
    refine Ev.step (fun k => ?_) h2
    simp only [sweep_Pairs.l0]
    rw [if_pos (by omega), if_pos (by omega), if_pos (by omega), wrap_succ i (by omega)]
theorem pairs_val (l : List S28) (hn : l.length ≤ 1000) : Ev (fun k => sweep_Pairs.f k l) (pairsFrom l 0) := by
  have := pairs_l0 hn l.length 0 [] (by omega) (by simp)
  simpa [sweep_Pairs.f] using this
/-! ### alive -/
theorem area_one : area [(⟨0, 0, 1, 1⟩ : S28)] = 4 := by
  have hok : ∀ a ∈ [(⟨0, 0, 1, 1⟩ : S28)], okR a := by
    intro a ha
    rw [List.mem_singleton] at ha
    subst ha
    unfold okR
    rw [BIG_int]
    decide
  have hx : IsX [(⟨0, 0, 1, 1⟩ : S28)] [0, 2] := ⟨by decide, fun c => by simp⟩
  have hy : IsY [(⟨0, 0, 1, 1⟩ : S28)] [0, 2] := ⟨by decide, fun c => by simp⟩
  rw [← area_seg hok hx]
  simp only [seg]
  rw [← col_seg hok hy]
  decide
theorem alive_val : Ev (fun k => croftlaw39_alive.f k) true := by
  have hok : ∀ a ∈ [(⟨0, 0, 1, 1⟩ : S28)], okR a := by
    intro a ha
    rw [List.mem_singleton] at ha
    subst ha
    unfold okR
    rw [BIG_int]
    decide
  have h1 := union_val [(⟨0, 0, 1, 1⟩ : S28)] (by decide) hok
  have e1 : fullL [(⟨0, 0, 1, 1⟩ : S28)] = [(⟨0, 0, 1, 1⟩ : S28)] := rfl
  rw [e1] at h1
  have e2 : unionV [(⟨0, 0, 1, 1⟩ : S28)] = (4, true) := by unfold unionV; rw [area_one]; decide
  rw [e2] at h1
  have h2 := depth_val [(⟨0, 0, 0, 0⟩ : S28)] (by decide)
  have e3 : depthOf (fullL [(⟨0, 0, 0, 0⟩ : S28)]) 0 (fullL [(⟨0, 0, 0, 0⟩ : S28)]) = 1 := by decide
  rw [e3] at h2
  refine Ev.bind h1 ?_
  simp only [if_true]
  exact Ev.bind h2 (Ev.now _)
theorem okR_of {x : S28} (h : wf28 x) : okR x := by
  obtain ⟨h0, h1, h2, h3⟩ := h
  have b0 := Go.bounds_u32 h0
  have b1 := Go.bounds_u32 h1
  have b2 := Go.bounds_u32 h2
  have b3 := Go.bounds_u32 h3
  unfold okR
  rw [BIG_int]
  omega
end Go.Proofs.Ytjehhfhkbboamaa.P
