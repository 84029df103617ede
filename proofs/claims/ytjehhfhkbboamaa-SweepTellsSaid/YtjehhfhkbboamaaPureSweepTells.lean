/- SweepTells, over lists and numbers: of small windows, place by place: how many places some have, and how many windows have one place at most. -/
import Derived.Test.YtjehhfhkbboamaaStSweepTells
import Derived.Test.YtjehhfhkbboamaaLSweepB
namespace Go.Proofs.Ytjehhfhkbboamaa.Pure
open Go.RowKit Go.Proofs.YtjehhfhkbboamaaW.PrintWords Go.Proofs.YtjehhfhkbboamaaW.PrintLast Go.Proofs.YtjehhfhkbboamaaW.PrintMore
open Go.Proofs.Ytjehhfhkbboamaa.P
def m16 (a : S28) : S28 := ⟨Int.tmod a.f0 16, Int.tmod a.f1 16, Int.tmod a.f2 16, Int.tmod a.f3 16⟩
def fewL (l : List S28) : List S28 := (l.take 8).map m16
def in16 (a : S28) : Prop := (0 ≤ a.f0 ∧ a.f0 < 16) ∧ (0 ≤ a.f1 ∧ a.f1 < 16) ∧ (0 ≤ a.f2 ∧ a.f2 < 16) ∧ (0 ≤ a.f3 ∧ a.f3 < 16)
theorem tmod16 (a : Int) (h : 0 ≤ a) : 0 ≤ Int.tmod a 16 ∧ Int.tmod a 16 < 16 := ⟨Int.tmod_nonneg _ h, Int.tmod_lt_of_pos _ (by decide)⟩
theorem fewL_in {l : List S28} (hl : ∀ a ∈ l, okR a) : ∀ a ∈ fewL l, in16 a := by
  intro a ha
  obtain ⟨b, hb, rfl⟩ := List.mem_map.1 ha
  have h := hl b (List.mem_of_mem_take hb)
  unfold okR at h
  exact ⟨tmod16 _ (by omega), tmod16 _ (by omega), tmod16 _ (by omega), tmod16 _ (by omega)⟩
theorem okR_in {a : S28} (h : in16 a) : okR a := by
  unfold in16 at h
  unfold okR
  rw [BIG_int]
  omega
theorem fewL_len (l : List S28) : (fewL l).length ≤ 8 := by
  unfold fewL
  rw [List.length_map, List.length_take]
  omega
theorem few_loop (l : List S28) : ∀ (m i : Nat) (out : List S28), i + m = 8 → out.length = i →
    Ev (fun k => croftlaw39_few.l0 k l out (i : Int)) (out ++ ((l.drop i).take m).map m16) := by
  intro m
  induction m with
  | zero =>
    intro i out hi ho
    refine Ev.step (fun k => ?_) (Ev.now _)
    simp only [croftlaw39_few.l0]
    by_cases h : (i : Int) < (l.length : Int)
    · rw [if_pos h, if_neg (by omega)]; simp
    · rw [if_neg h]; simp
  | succ m ih =>
    intro i out hi ho
    by_cases h : i < l.length
    · have hd : l.drop i = l[i] :: l.drop (i + 1) := List.drop_eq_getElem_cons h
      have h2 := ih (i + 1) (out ++ [m16 l[i]]) (by omega) (by simp; omega)
      have e : out ++ ((l.drop i).take (m + 1)).map m16 = (out ++ [m16 l[i]]) ++ ((l.drop (i + 1)).take m).map m16 := by
        rw [hd, List.take_succ_cons, List.map_cons, List.append_assoc]; rfl
      rw [e]
      refine Ev.step (fun k => ?_) h2
      simp only [croftlaw39_few.l0]
      rw [if_pos (by omega), if_pos (by omega), if_pos (by omega), if_pos (by omega), rd28 l h, wrap_succ i (by omega)]
      rfl
    · rw [List.drop_of_length_le (by omega)]
      refine Ev.step (fun k => ?_) (Ev.now _)
      simp only [croftlaw39_few.l0]
      rw [if_neg (by omega)]
      simp
theorem few_val (l : List S28) : Ev (fun k => croftlaw39_few.f k l) (fewL l) := by
  have h := few_loop l 8 0 [] rfl rfl
  simpa [fewL, croftlaw39_few.f] using h
theorem has_val (a : S28) (x y : Int) : croftlaw39_has.f a.f0 a.f1 a.f2 a.f3 x y = some (hasR a x y) := by
  unfold croftlaw39_has.f hasR
  by_cases h1 : x ≥ a.f0 <;> by_cases h2 : x ≤ a.f2 <;> by_cases h3 : y ≥ a.f1 <;> simp [h1, h2, h3]
/-- One where there is something. -/
def pos (c : Int) : Int := if c > 0 then 1 else 0
theorem pos_bd (c : Int) : 0 ≤ pos c ∧ pos c ≤ 1 := by unfold pos; split <;> omega
/-- The most of a function's values, one after the other. -/
def mxN (f : Int → Int) (most : Int) : Nat → Int
  | 0 => most
  | n + 1 => mx (mxN f most n) (f (n : Int))
theorem mxN_spec (f : Int → Int) (most : Int) : ∀ n, most ≤ mxN f most n ∧ (∀ j : Nat, j < n → f (j : Int) ≤ mxN f most n) ∧ (mxN f most n = most ∨ ∃ j : Nat, j < n ∧ mxN f most n = f (j : Int)) := by
  intro n
  induction n with
  | zero => exact ⟨Int.le_refl _, fun j h => absurd h (Nat.not_lt_zero _), .inl rfl⟩
  | succ n ih =>
    obtain ⟨h1, h2, h3⟩ := ih
    have hm := le_mx (mxN f most n) (f (n : Int))
    have e : mxN f most (n + 1) = mx (mxN f most n) (f (n : Int)) := rfl
    rw [e]
    refine ⟨by omega, fun j hj => ?_, ?_⟩
    · rcases Nat.lt_succ_iff_lt_or_eq.1 hj with hj | rfl
      · have := h2 j hj; omega
      · exact hm.2
    · rcases mx_cases (mxN f most n) (f (n : Int)) with h4 | h4
      · rcases h3 with h3 | ⟨j, hj, h3⟩
        · exact .inl (h4.trans h3)
        · exact .inr ⟨j, by omega, h4.trans h3⟩
      · exact .inr ⟨n, by omega, h4⟩
theorem cnt_nonneg (l : List S28) (x y : Int) : 0 ≤ cnt l x y := by unfold cnt; omega
theorem tells_l2 {l : List S28} (hn : l.length ≤ 1000) {r : Bool} (n most : Int) (hn0 : 0 ≤ n) (hn1 : n ≤ 1000) (x y : Nat) (hy : y < 16) : ∀ (m t : Nat) (c : Int), t + m = l.length → 0 ≤ c → c ≤ t →
    Ev (fun k => croftlaw39_SweepTells.l1 k l (n + pos (c + cnt (l.drop t) x y)) (mx most (c + cnt (l.drop t) x y)) (x : Int) ((y + 1 : Nat) : Int)) r →
    Ev (fun k => croftlaw39_SweepTells.l2 k l n most (x : Int) (y : Int) c (t : Int)) r := by
  intro m
  induction m with
  | zero =>
    intro t c ht h0 h1 h
    have e : c + cnt (l.drop t) x y = c := by rw [List.drop_of_length_le (by omega)]; simp [cnt]
    rw [e] at h
    have hw : ((y : Int) + 1) % 4294967296 = ((y + 1 : Nat) : Int) := by omega
    refine Ev.step (fun k => ?_) h
    simp only [croftlaw39_SweepTells.l2]
    rw [if_neg (by omega), hw]
    unfold pos
    by_cases hc : c > 0
    · rw [if_pos hc, if_pos hc, show wrap64 (n + 1) = n + 1 from by unfold wrap64; omega]
    · rw [if_neg hc, if_neg hc, Int.add_zero]
  | succ m ih =>
    intro t c ht h0 h1 h
    have htl : t < l.length := by omega
    have hd : l.drop t = l[t] :: l.drop (t + 1) := List.drop_eq_getElem_cons htl
    rw [hd] at h
    by_cases hh : hasR l[t] x y = true
    · have hc : c + cnt (l[t] :: l.drop (t + 1)) x y = (c + 1) + cnt (l.drop (t + 1)) x y := by
        unfold cnt; rw [List.filter_cons, if_pos hh, List.length_cons]; omega
      rw [hc] at h
      refine Ev.step (fun k => ?_) (ih (t + 1) (c + 1) (by omega) (by omega) (by omega) h)
      simp only [croftlaw39_SweepTells.l2]
      rw [if_pos (by omega), if_pos (by omega), rd28 l htl, has_val]
      simp only [Option.bind_some]
      rw [if_pos hh, wrap_succ t (by omega), show wrap64 (c + 1) = c + 1 from by unfold wrap64; omega]
    · have hc : c + cnt (l[t] :: l.drop (t + 1)) x y = c + cnt (l.drop (t + 1)) x y := by
        unfold cnt; rw [List.filter_cons, if_neg hh]
      rw [hc] at h
      refine Ev.step (fun k => ?_) (ih (t + 1) c (by omega) h0 (by omega) h)
      simp only [croftlaw39_SweepTells.l2]
      rw [if_pos (by omega), if_pos (by omega), rd28 l htl, has_val]
      simp only [Option.bind_some]
      rw [if_neg hh, wrap_succ t (by omega)]
def posAt (l : List S28) (x y : Int) : Int := pos (cnt l x y)
theorem tells_l1 {l : List S28} (hn : l.length ≤ 1000) {r : Bool} (n0 most0 : Int) (h0 : 0 ≤ n0) (h1 : n0 ≤ 256) (x : Nat) (hx : x < 16)
    (h : Ev (fun k => croftlaw39_SweepTells.l0 k l (n0 + sumN (posAt l x) 0 16) (mxN (cnt l x) most0 16) ((x + 1 : Nat) : Int)) r) : ∀ (m j : Nat), j + m = 16 →
    Ev (fun k => croftlaw39_SweepTells.l1 k l (n0 + sumN (posAt l x) 0 j) (mxN (cnt l x) most0 j) (x : Int) (j : Int)) r := by
  intro m
  induction m with
  | zero =>
    intro j hj
    obtain rfl : j = 16 := by omega
    have hw : ((x : Int) + 1) % 4294967296 = ((x + 1 : Nat) : Int) := by omega
    refine Ev.step (fun k => ?_) h
    simp only [croftlaw39_SweepTells.l1]
    rw [if_neg (by omega), hw]
  | succ m ih =>
    intro j hj
    have h2 := ih (j + 1) (by omega)
    have b1 := sumN_nonneg (f := posAt l x) (a := 0) (n := j) fun y _ _ => (pos_bd _).1
    have b2 := sumN_le (f := posAt l x) (a := 0) (v := 1) (n := j) fun y _ _ => (pos_bd _).2
    have e1 : n0 + sumN (posAt l x) 0 (j + 1) = n0 + sumN (posAt l x) 0 j + pos (0 + cnt (l.drop 0) x j) := by
      rw [List.drop_zero, Int.zero_add]
      simp only [sumN, Int.zero_add, posAt]
      omega
    have e2 : mxN (cnt l x) most0 (j + 1) = mx (mxN (cnt l x) most0 j) (0 + cnt (l.drop 0) x j) := by
      rw [List.drop_zero, Int.zero_add]
      rfl
    rw [e1, e2] at h2
    refine Ev.step (fun k => ?_) (tells_l2 hn (n0 + sumN (posAt l x) 0 j) (mxN (cnt l x) most0 j) (by omega) (by omega) x j (by omega) l.length 0 0 (by omega) (by omega) (by omega) h2)
    simp only [croftlaw39_SweepTells.l1]
    rw [if_pos (by omega)]
    rfl
def rowN (l : List S28) (x : Int) : Int := sumN (posAt l x) 0 16
def mxx (l : List S28) : Nat → Int
  | 0 => 0
  | n + 1 => mxN (cnt l n) (mxx l n) 16
theorem rowN_bd (l : List S28) (x : Int) : 0 ≤ rowN l x ∧ rowN l x ≤ 16 := by
  have b1 := sumN_nonneg (f := posAt l x) (a := 0) (n := 16) fun y _ _ => (pos_bd _).1
  have b2 := sumN_le (f := posAt l x) (a := 0) (v := 1) (n := 16) fun y _ _ => (pos_bd _).2
  unfold rowN
  omega
theorem tells_l0 {l : List S28} (hn : l.length ≤ 1000) {r : Bool}
    (h : Ev (fun k => croftlaw39_SweepTells.l0 k l (sumN (rowN l) 0 16) (mxx l 16) ((16 : Nat) : Int)) r) : ∀ (m i : Nat), i + m = 16 →
    Ev (fun k => croftlaw39_SweepTells.l0 k l (sumN (rowN l) 0 i) (mxx l i) (i : Int)) r := by
  intro m
  induction m with
  | zero =>
    intro i hi
    obtain rfl : i = 16 := by omega
    exact h
  | succ m ih =>
    intro i hi
    have h2 := ih (i + 1) (by omega)
    have b1 := sumN_nonneg (f := rowN l) (a := 0) (n := i) fun y _ _ => (rowN_bd l y).1
    have b2 := sumN_le (f := rowN l) (a := 0) (v := 16) (n := i) fun y _ _ => (rowN_bd l y).2
    have e1 : sumN (rowN l) 0 (i + 1) = sumN (rowN l) 0 i + sumN (posAt l i) 0 16 := by
      simp only [sumN, Int.zero_add, rowN]
    have e2 : mxx l (i + 1) = mxN (cnt l i) (mxx l i) 16 := rfl
    rw [e1, e2] at h2
    have h3 := tells_l1 hn (sumN (rowN l) 0 i) (mxx l i) (by omega) (by omega) i (by omega) h2 16 0 (by omega)
    refine Ev.step (fun k => ?_) h3
    simp only [croftlaw39_SweepTells.l0]
    rw [if_pos (by omega)]
    simp only [sumN, mxN, Int.add_zero]
    rfl
/-! ### the places -/
theorem pos_val (l : List S28) (x y : Int) : posAt l x y = val l x y := by
  unfold posAt pos val cnt
  by_cases h : hasAt l x y = true
  · rw [if_pos h]
    obtain ⟨a, ha, hx⟩ := hasAt_iff.1 h
    have : a ∈ l.filter fun a => hasR a x y := List.mem_filter.2 ⟨ha, hasR_iff.2 hx⟩
    have hl := List.length_pos_of_mem this
    rw [if_pos (by omega)]
  · rw [if_neg h]
    have : (l.filter fun a => hasR a x y) = [] := by
      rw [List.filter_eq_nil_iff]
      intro a ha hc
      exact h (hasAt_iff.2 ⟨a, ha, hasR_iff.1 hc⟩)
    rw [this]
    rfl
theorem sum_16 (f : Int → Int) (h : ∀ x, 16 ≤ x → f x = 0) : sumN f 0 BIG = sumN f 0 16 := by
  have e : BIG = 16 + 4294967280 := rfl
  have h2 : sumN f (0 + ((16 : Nat) : Int)) 4294967280 = ((4294967280 : Nat) : Int) * 0 := sumN_const fun x h1 _ => h x (by omega)
  rw [e, sumN_add, h2, Int.mul_zero, Int.add_zero]
theorem area_16 {l : List S28} (hl : ∀ a ∈ l, in16 a) : area l = sumN (rowN l) 0 16 := by
  have hc : ∀ x, col l x = rowN l x := by
    intro x
    unfold col rowN
    rw [sum_16 _ fun y hy => val_zero fun a ha => by have := hl a ha; unfold in16 at this; omega]
    exact sumN_congr fun y _ _ => (pos_val l x y).symm
  unfold area
  rw [sum_16 _ fun x hx => ?_]
  · exact sumN_congr fun x _ _ => hc x
  · rw [hc]
    have : sumN (posAt l x) 0 16 = ((16 : Nat) : Int) * 0 := sumN_const fun y _ _ => by
      rw [pos_val]
      exact val_zero fun a ha => by have := hl a ha; unfold in16 at this; omega
    unfold rowN
    rw [this]
    rfl
theorem emp_not {a : S28} {x y : Int} (h : hasR a x y = true) : (!empB a) = true := by
  rw [hasR_iff] at h
  unfold empB
  simp
  omega
theorem cnt_full (l : List S28) (x y : Int) : cnt (fullL l) x y = cnt l x y := by
  unfold cnt fullL
  rw [List.filter_filter]
  have e : (fun a => hasR a x y && !empB a) = fun a => hasR a x y := by
    funext a
    by_cases h : hasR a x y = true
    · rw [h, emp_not h]; rfl
    · rw [Bool.eq_false_iff.2 h]; rfl
  rw [e]
theorem hasAt_full (l : List S28) (x y : Int) : hasAt (fullL l) x y = hasAt l x y := by
  rw [Bool.eq_iff_iff, hasAt_iff, hasAt_iff]
  constructor
  · rintro ⟨a, ha, h⟩
    exact ⟨a, fullL_mem ha, h⟩
  · rintro ⟨a, ha, h⟩
    exact ⟨a, List.mem_filter.2 ⟨ha, emp_not (hasR_iff.2 h)⟩, h⟩
/-! ### the depth -/
theorem max_of (f : S28 → Int) : ∀ (S : List S28), S ≠ [] → ∃ a ∈ S, ∀ c ∈ S, f c ≤ f a := by
  intro S
  induction S with
  | nil => intro h; exact absurd rfl h
  | cons a r ih =>
    intro _
    by_cases hr : r = []
    · subst hr
      exact ⟨a, by simp, fun c hc => by rw [List.mem_singleton] at hc; subst hc; exact Int.le_refl _⟩
    · obtain ⟨b, hb, h⟩ := ih hr
      by_cases hab : f b ≤ f a
      · exact ⟨a, by simp, fun c hc => by
          rcases List.mem_cons.1 hc with rfl | hc
          · exact Int.le_refl _
          · exact Int.le_trans (h c hc) hab⟩
      · exact ⟨b, List.mem_cons_of_mem _ hb, fun c hc => by
          rcases List.mem_cons.1 hc with rfl | hc
          · omega
          · exact h c hc⟩
theorem corner (F : List S28) (x y : Int) : cnt F x y = 0 ∨ ∃ a ∈ F, ∃ b ∈ F, cnt F x y ≤ cnt F a.f0 b.f1 := by
  by_cases hS : (F.filter fun a => hasR a x y) = []
  · left; unfold cnt; rw [hS]; rfl
  · right
    obtain ⟨a, ha, hma⟩ := max_of (fun c => c.f0) _ hS
    obtain ⟨b, hb, hmb⟩ := max_of (fun c => c.f1) _ hS
    have ha' := List.mem_filter.1 ha
    have hb' := List.mem_filter.1 hb
    refine ⟨a, ha'.1, b, hb'.1, ?_⟩
    have ia := hasR_iff.1 ha'.2
    have ib := hasR_iff.1 hb'.2
    unfold cnt
    rw [← List.countP_eq_length_filter, ← List.countP_eq_length_filter]
    have := List.countP_mono_left (l := F) (p := fun c => hasR c x y) (q := fun c => hasR c a.f0 b.f1) fun c hc hp => by
      have hcS : c ∈ F.filter fun a => hasR a x y := List.mem_filter.2 ⟨hc, hp⟩
      have h1 : c.f0 ≤ a.f0 := hma c hcS
      have h2 : c.f1 ≤ b.f1 := hmb c hcS
      have ic := hasR_iff.1 hp
      rw [hasR_iff]
      omega
    omega
theorem mxx_spec (l : List S28) : ∀ n, 0 ≤ mxx l n ∧ (∀ i j : Nat, i < n → j < 16 → cnt l i j ≤ mxx l n) ∧ (mxx l n = 0 ∨ ∃ i j : Nat, mxx l n = cnt l i j) := by
  intro n
  induction n with
  | zero => exact ⟨Int.le_refl _, fun i j h => absurd h (Nat.not_lt_zero _), .inl rfl⟩
  | succ n ih =>
    obtain ⟨h1, h2, h3⟩ := ih
    obtain ⟨g1, g2, g3⟩ := mxN_spec (cnt l n) (mxx l n) 16
    have e : mxx l (n + 1) = mxN (cnt l n) (mxx l n) 16 := rfl
    rw [e]
    refine ⟨by omega, fun i j hi hj => ?_, ?_⟩
    · rcases Nat.lt_succ_iff_lt_or_eq.1 hi with hi | rfl
      · have := h2 i j hi hj; omega
      · exact g2 j hj
    · rcases g3 with g3 | ⟨j, _, g3⟩
      · rcases h3 with h3 | ⟨i, j, h3⟩
        · exact .inl (g3.trans h3)
        · exact .inr ⟨i, j, g3.trans h3⟩
      · exact .inr ⟨n, j, g3⟩
theorem depth_eq {l : List S28} (hl : ∀ a ∈ l, in16 a) : depthOf (fullL l) 0 (fullL l) = mxx l 16 := by
  obtain ⟨d1, d2, d3⟩ := depthOf_spec (fullL l) (fullL l) 0
  obtain ⟨m1, m2, m3⟩ := mxx_spec l 16
  have A : depthOf (fullL l) 0 (fullL l) ≤ mxx l 16 := by
    rcases d3 with d3 | ⟨a, ha, b, hb, d3⟩
    · omega
    · rw [d3, cnt_full]
      have ia := hl a (fullL_mem ha)
      have ib := hl b (fullL_mem hb)
      unfold in16 at ia ib
      have := m2 a.f0.toNat b.f1.toNat (by omega) (by omega)
      rw [Int.toNat_of_nonneg ia.1.1, Int.toNat_of_nonneg ib.2.1.1] at this
      exact this
  have B : mxx l 16 ≤ depthOf (fullL l) 0 (fullL l) := by
    rcases m3 with m3 | ⟨i, j, m3⟩
    · omega
    · rw [m3, ← cnt_full]
      rcases corner (fullL l) i j with h | ⟨a, ha, b, hb, h⟩
      · omega
      · have := d2 a ha b hb; omega
  omega
theorem SweepTells : SweepTells_Pure := by
  intro l _ hw
  have hl : ∀ a ∈ l, okR a := fun a ha => okR_of (hw a ha)
  have hin := fewL_in hl
  have hlen := fewL_len l
  have hok : ∀ a ∈ fewL l, okR a := fun a ha => okR_in (hin a ha)
  have key : Ev (fun k => croftlaw39_SweepTells.f k l) true := by
    refine Ev.bind alive_val ?_
    simp only [if_true]
    refine Ev.bind (few_val l) ?_
    have hu := union_val (fewL l) (by omega) hok
    have hd := depth_val (fewL l) (by omega)
    rw [depth_eq hin] at hd
    have ha : area (fullL (fewL l)) = sumN (rowN (fewL l)) 0 16 := by rw [area_congr (hasAt_full (fewL l)), area_16 hin]
    have b1 := sumN_nonneg (f := rowN (fewL l)) (a := 0) (n := 16) fun y _ _ => (rowN_bd _ y).1
    have b2 := sumN_le (f := rowN (fewL l)) (a := 0) (v := 16) (n := 16) fun y _ _ => (rowN_bd _ y).2
    have hun : unionV (fullL (fewL l)) = (sumN (rowN (fewL l)) 0 16, true) := by
      unfold unionV
      rw [ha, if_pos (by omega)]
    rw [hun] at hu
    refine tells_l0 (l := fewL l) (by omega) ?_ 16 0 (by omega)
    refine Ev.step (fun k => ?_) (Ev.bind hu (f := fun k bt => (if bt.2 = true then (if bt.1 = (IntKind.u64.wrap (sumN (rowN (fewL l)) 0 16)) then ((sweep_Depth.f k (fewL l)).bind fun t211 => (some (t211 == mxx (fewL l) 16))) else (some false)) else (some false))) (r := true) ?_)
    · simp only [croftlaw39_SweepTells.l0]
      rw [if_neg (by omega)]
    · rw [u64_id _ (by omega) (by omega)]
      simp only [if_true]
      refine Ev.bind hd ?_
      simp only [beq_self_eq_true]
      exact Ev.now _
  exact key.rounds
end Go.Proofs.Ytjehhfhkbboamaa.Pure
