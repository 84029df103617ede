-- Written by xprint.py, a program of this work, round the kit's print.
/- What sweep's functions answer, plainly: the windows that are not empty, the cuts, the places that some have, the depth, the pairs. -/
import Derived.Test.YtjehhfhkbboamaaPx0
import Derived.Test.YtjehhfhkbboamaaPx3
import Derived.Test.YtjehhfhkbboamaaPx6
import Derived.Test.YtjehhfhkbboamaaXOpens
import Derived.Test.YtjehhfhkbboamaaXTall
import Derived.Test.YtjehhfhkbboamaaXU
import Derived.Test.YtjehhfhkbboamaaXClone
import Derived.IntWalk
import Derived.Laws.BitsAllLaws
import Derived.Laws.BitsLemmas
import Derived.OpenShut
namespace Go.Proofs.Ytjehhfhkbboamaa.P
open Go.RowKit Go.Proofs.YtjehhfhkbboamaaW.PrintWords Go.Proofs.YtjehhfhkbboamaaW.PrintLast Go.Proofs.YtjehhfhkbboamaaW.PrintMore
attribute [local go_sem] max2_int min2_int max_two min_two max_three min_three max_four min_four   -- for this text's walks alone
attribute [local go_sem] add64_run carryOk_zero   -- for this text's walks alone
set_option linter.unusedVariables false
set_option linter.unusedSimpArgs false

/-- The sum of f over the n numbers from a on. -/
def sumN (f : Int → Int) (a : Int) : Nat → Int
  | 0 => 0
  | n + 1 => sumN f a n + f (a + n)
theorem sumN_add (f : Int → Int) (a : Int) (m n : Nat) : sumN f a (m + n) = sumN f a m + sumN f (a + m) n := by
  induction n with
  | zero => simp [sumN]
  | succ n ih =>
    rw [← Nat.add_assoc]
    simp only [sumN, ih]
    rw [show a + ((m + n : Nat) : Int) = a + m + n from by omega]
    omega
theorem sumN_congr {f g : Int → Int} {a : Int} {n : Nat} (h : ∀ x, a ≤ x → x < a + n → f x = g x) : sumN f a n = sumN g a n := by
  induction n with
  | zero => rfl
  | succ n ih =>
    simp only [sumN]
    rw [ih (fun x h1 h2 => h x h1 (by omega)), h (a + n) (by omega) (by omega)]
theorem sumN_const {f : Int → Int} {a v : Int} {n : Nat} (h : ∀ x, a ≤ x → x < a + n → f x = v) : sumN f a n = n * v := by
  induction n with
  | zero => simp [sumN]
  | succ n ih =>
    simp only [sumN]
    rw [ih (fun x h1 h2 => h x h1 (by omega)), h (a + n) (by omega) (by omega), show ((n + 1 : Nat) : Int) = n + 1 from by omega, Int.add_mul, Int.one_mul]
theorem sumN_le {f : Int → Int} {a v : Int} {n : Nat} (h : ∀ x, a ≤ x → x < a + n → f x ≤ v) : sumN f a n ≤ n * v := by
  induction n with
  | zero => simp [sumN]
  | succ n ih =>
    simp only [sumN]
    have h1 := ih (fun x h1 h2 => h x h1 (by omega))
    have h2 := h (a + n) (by omega) (by omega)
    rw [show ((n + 1 : Nat) : Int) = n + 1 from by omega, Int.add_mul, Int.one_mul]
    omega
theorem sumN_nonneg {f : Int → Int} {a : Int} {n : Nat} (h : ∀ x, a ≤ x → x < a + n → 0 ≤ f x) : 0 ≤ sumN f a n := by
  induction n with
  | zero => simp [sumN]
  | succ n ih =>
    simp only [sumN]
    have h1 := ih (fun x h1 h2 => h x h1 (by omega))
    have h2 := h (a + n) (by omega) (by omega)
    omega
/-- What lies between cuts, one piece behind the other. -/
def seg (f : Int → Int) : List Int → Int
  | a :: b :: r => (b - a) * f a + seg f (b :: r)
  | _ => 0
theorem sum_seg_from (f : Int → Int) (r : List Int) : ∀ (a : Int) (n : Nat), (a :: r).Pairwise (· < ·) → (∀ c ∈ a :: r, c ≤ a + n) →
    (∀ x y, a ≤ x → a ≤ y → (∀ c ∈ r, c ≤ x ↔ c ≤ y) → f x = f y) → (∀ x, a ≤ x → (∀ c ∈ r, c ≤ x) → f x = 0) → sumN f a n = seg f (a :: r) := by
  induction r with
  | nil =>
    intro a n _ _ _ h0
    rw [sumN_const (v := 0) (fun x hx _ => h0 x hx (by simp))]
    simp [seg]
  | cons b r ih =>
    intro a n hp hm hs h0
    have hab : a < b := (List.pairwise_cons.1 hp).1 b (by simp)
    have hp2 := (List.pairwise_cons.1 hp).2
    have hbr : ∀ c ∈ r, b < c := (List.pairwise_cons.1 hp2).1
    have hbn := hm b (by simp)
    obtain ⟨d, hd⟩ : ∃ d : Nat, b = a + d := ⟨(b - a).toNat, by omega⟩
    obtain ⟨m, rfl⟩ : ∃ m : Nat, n = d + m := ⟨n - d, by omega⟩
    rw [sumN_add]
    have e1 : sumN f a d = d * f a := sumN_const fun x h1 h2 => hs x a h1 (by omega) (fun c hc => by
      have : b ≤ c := by
        rcases List.mem_cons.1 hc with rfl | hc
        · omega
        · have := hbr c hc; omega
      omega)
    have e2 : sumN f (a + d) m = seg f (b :: r) := by
      rw [← hd]
      refine ih b m hp2 (fun c hc => ?_) (fun x y hx hy h => ?_) (fun x hx h => ?_)
      · have := hm c (List.mem_cons_of_mem _ hc); omega
      · refine hs x y (by omega) (by omega) (fun c hc => ?_)
        rcases List.mem_cons.1 hc with rfl | hc
        · omega
        · exact h c hc
      · refine h0 x (by omega) (fun c hc => ?_)
        rcases List.mem_cons.1 hc with rfl | hc
        · exact hx
        · exact h c hc
    rw [e1, e2]
    simp only [seg]
    rw [show b - a = (d : Int) from by omega]
/-- A sum over all numbers below n is what lies between the cuts, if the cuts are all that matters. -/
theorem sum_seg (f : Int → Int) (cs : List Int) (n : Nat) (hp : cs.Pairwise (· < ·)) (hm : ∀ c ∈ cs, 0 ≤ c ∧ c ≤ n)
    (hs : ∀ x y, 0 ≤ x → 0 ≤ y → (∀ c ∈ cs, c ≤ x ↔ c ≤ y) → f x = f y) (h0 : ∀ x, 0 ≤ x → (∀ c ∈ cs, c ≤ x) → f x = 0) (h1 : ∀ x, 0 ≤ x → (∀ c ∈ cs, x < c) → f x = 0) : sumN f 0 n = seg f cs := by
  cases cs with
  | nil =>
    rw [sumN_const (v := 0) (fun x hx _ => h0 x hx (by simp))]
    simp [seg]
  | cons a r =>
    have ha := hm a (by simp)
    have har : ∀ c ∈ r, a < c := (List.pairwise_cons.1 hp).1
    obtain ⟨m, hn⟩ : ∃ m : Nat, n = a.toNat + m := ⟨n - a.toNat, by omega⟩
    rw [hn, sumN_add]
    have e1 : sumN f 0 a.toNat = a.toNat * 0 := sumN_const fun x hx1 hx2 => h1 x (by omega) (fun c hc => by
      rcases List.mem_cons.1 hc with rfl | hc
      · omega
      · have := har c hc; omega)
    have e2 : sumN f (0 + (a.toNat : Int)) m = seg f (a :: r) := by
      rw [show 0 + (a.toNat : Int) = a from by omega]
      refine sum_seg_from f r a m hp (fun c hc => ?_) (fun x y hx hy h => hs x y (by omega) (by omega) (fun c hc => ?_)) (fun x hx h => h0 x (by omega) (fun c hc => ?_))
      · have := hm c hc; omega
      · rcases List.mem_cons.1 hc with rfl | hc
        · omega
        · exact h c hc
      · rcases List.mem_cons.1 hc with rfl | hc
        · exact hx
        · exact h c hc
    rw [e1, e2]
    omega
def hasAt (l : List S28) (x y : Int) : Bool := l.any fun a => hasR a x y
theorem hasR_iff {a : S28} {x y : Int} : hasR a x y = true ↔ a.f0 ≤ x ∧ x ≤ a.f2 ∧ a.f1 ≤ y ∧ y ≤ a.f3 := by
  simp only [hasR, Bool.and_eq_true, decide_eq_true_eq]
  omega
theorem hasAt_iff {l : List S28} {x y : Int} : hasAt l x y = true ↔ ∃ a ∈ l, a.f0 ≤ x ∧ x ≤ a.f2 ∧ a.f1 ≤ y ∧ y ≤ a.f3 := by
  simp only [hasAt, List.any_eq_true, hasR_iff]
/-- All numbers of a coordinate. -/
def BIG : Nat := 4294967296
def okR (a : S28) : Prop := 0 ≤ a.f0 ∧ 0 ≤ a.f1 ∧ a.f2 < BIG ∧ a.f3 < BIG ∧ a.f0 < BIG ∧ a.f1 < BIG ∧ 0 ≤ a.f2 ∧ 0 ≤ a.f3
def fullR (a : S28) : Prop := a.f0 ≤ a.f2 ∧ a.f1 ≤ a.f3
def val (l : List S28) (x y : Int) : Int := if hasAt l x y = true then 1 else 0
/-- How much of a column is had by some; how many places. -/
def col (l : List S28) (x : Int) : Int := sumN (val l x) 0 BIG
def area (l : List S28) : Int := sumN (col l) 0 BIG
theorem val_bd (l : List S28) (x y : Int) : 0 ≤ val l x y ∧ val l x y ≤ 1 := by unfold val; split <;> omega
theorem col_bd (l : List S28) (x : Int) : 0 ≤ col l x ∧ col l x ≤ BIG := by
  refine ⟨sumN_nonneg fun y _ _ => (val_bd l x y).1, ?_⟩
  have := sumN_le (f := val l x) (a := 0) (v := 1) (n := BIG) (fun y _ _ => (val_bd l x y).2)
  unfold col
  omega
theorem area_bd (l : List S28) : 0 ≤ area l ∧ area l ≤ BIG * BIG :=
  ⟨sumN_nonneg fun y _ _ => (col_bd l y).1, sumN_le fun y _ _ => (col_bd l y).2⟩
/-- What is had alone counts. -/
theorem area_congr {l m : List S28} (h : ∀ x y, hasAt l x y = hasAt m x y) : area l = area m := by
  unfold area col val
  simp only [h]
/-- The cuts of one direction, and of the other. -/
def IsX (l : List S28) (cs : List Int) : Prop := cs.Pairwise (· < ·) ∧ ∀ c, c ∈ cs ↔ ∃ a ∈ l, c = a.f0 ∨ c = a.f2 + 1
def IsY (l : List S28) (cs : List Int) : Prop := cs.Pairwise (· < ·) ∧ ∀ c, c ∈ cs ↔ ∃ a ∈ l, c = a.f1 ∨ c = a.f3 + 1
theorem val_eq_of {l : List S28} {x x2 y y2 : Int} (h : ∀ a ∈ l, (a.f0 ≤ x ↔ a.f0 ≤ x2) ∧ (a.f2 + 1 ≤ x ↔ a.f2 + 1 ≤ x2) ∧ (a.f1 ≤ y ↔ a.f1 ≤ y2) ∧ (a.f3 + 1 ≤ y ↔ a.f3 + 1 ≤ y2)) : val l x y = val l x2 y2 := by
  have : hasAt l x y = hasAt l x2 y2 := by
    rw [Bool.eq_iff_iff, hasAt_iff, hasAt_iff]
    constructor
    · rintro ⟨a, ha, h1⟩
      have := h a ha
      exact ⟨a, ha, by omega⟩
    · rintro ⟨a, ha, h1⟩
      have := h a ha
      exact ⟨a, ha, by omega⟩
  unfold val
  rw [this]
theorem val_zero {l : List S28} {x y : Int} (h : ∀ a ∈ l, ¬ (a.f0 ≤ x ∧ x ≤ a.f2 ∧ a.f1 ≤ y ∧ y ≤ a.f3)) : val l x y = 0 := by
  unfold val
  rw [if_neg]
  rw [hasAt_iff]
  rintro ⟨a, ha, h1⟩
  exact h a ha h1
theorem col_seg {l : List S28} {ys : List Int} (hl : ∀ a ∈ l, okR a) (hy : IsY l ys) (x : Int) : seg (val l x) ys = col l x := by
  refine (sum_seg _ ys BIG hy.1 (fun c hc => ?_) (fun y y2 h1 h2 h => val_eq_of fun a ha => ?_) (fun y h1 h => val_zero fun a ha => ?_) (fun y h1 h => val_zero fun a ha => ?_)).symm
  · obtain ⟨a, ha, h⟩ := (hy.2 c).1 hc
    have := hl a ha
    unfold okR at this
    omega
  · have e1 := h a.f1 ((hy.2 _).2 ⟨a, ha, .inl rfl⟩)
    have e2 := h (a.f3 + 1) ((hy.2 _).2 ⟨a, ha, .inr rfl⟩)
    exact ⟨Iff.rfl, Iff.rfl, e1, e2⟩
  · have e2 := h (a.f3 + 1) ((hy.2 _).2 ⟨a, ha, .inr rfl⟩)
    omega
  · have e1 := h a.f1 ((hy.2 _).2 ⟨a, ha, .inl rfl⟩)
    omega
theorem area_seg {l : List S28} {xs : List Int} (hl : ∀ a ∈ l, okR a) (hx : IsX l xs) : seg (col l) xs = area l := by
  have hcol : ∀ x x2 : Int, (∀ a ∈ l, (a.f0 ≤ x ↔ a.f0 ≤ x2) ∧ (a.f2 + 1 ≤ x ↔ a.f2 + 1 ≤ x2)) → col l x = col l x2 := by
    intro x x2 h
    unfold col
    exact sumN_congr fun y _ _ => val_eq_of fun a ha => ⟨(h a ha).1, (h a ha).2, Iff.rfl, Iff.rfl⟩
  have hz : ∀ x : Int, (∀ a ∈ l, ¬ (a.f0 ≤ x ∧ x ≤ a.f2)) → col l x = 0 := by
    intro x h
    unfold col
    rw [sumN_const (v := 0) (fun y _ _ => val_zero fun a ha h1 => h a ha ⟨h1.1, h1.2.1⟩)]
    omega
  refine (sum_seg _ xs BIG hx.1 (fun c hc => ?_) (fun y y2 h1 h2 h => hcol _ _ fun a ha => ?_) (fun y h1 h => hz _ fun a ha => ?_) (fun y h1 h => hz _ fun a ha => ?_)).symm
  · obtain ⟨a, ha, h⟩ := (hx.2 c).1 hc
    have := hl a ha
    unfold okR at this
    omega
  · exact ⟨h a.f0 ((hx.2 _).2 ⟨a, ha, .inl rfl⟩), h (a.f2 + 1) ((hx.2 _).2 ⟨a, ha, .inr rfl⟩)⟩
  · have e2 := h (a.f2 + 1) ((hx.2 _).2 ⟨a, ha, .inr rfl⟩)
    omega
  · have e1 := h a.f0 ((hx.2 _).2 ⟨a, ha, .inl rfl⟩)
    omega

theorem upTo_sorted (zs : List Int) (hs : ∀ i j : Nat, i ≤ j → j < zs.length → zs.toArray[i]! ≤ zs.toArray[j]!) : ∀ m, m ≤ zs.length → (Lib.compactUpTo zs.toArray m).Pairwise (· < ·) ∧ ∀ x, x ∈ Lib.compactUpTo zs.toArray m ↔ ∃ j, j < m ∧ zs.toArray[j]! = x := by
  intro m
  induction m with
  | zero => intro _; simp [Lib.compactUpTo]
  | succ m ih =>
    intro hm
    obtain ⟨h1, h2⟩ := ih (by omega)
    rw [Lib.compactUpTo_succ]
    by_cases hk : Lib.keeps zs.toArray m = true
    · rw [if_pos hk]
      have hk' : m = 0 ∨ zs.toArray[m]! ≠ zs.toArray[m - 1]! := by simpa [Lib.keeps] using hk
      constructor
      · rw [List.pairwise_append]
        refine ⟨h1, by simp, fun x hx y hy => ?_⟩
        rw [List.mem_singleton] at hy
        subst hy
        obtain ⟨j, hj, rfl⟩ := (h2 x).1 hx
        have a := hs j (m - 1) (by omega) (by omega)
        have b := hs (m - 1) m (by omega) (by omega)
        omega
      · intro x
        rw [List.mem_append, h2, List.mem_singleton]
        constructor
        · rintro (⟨j, hj, e⟩ | e)
          · exact ⟨j, by omega, e⟩
          · exact ⟨m, by omega, e.symm⟩
        · rintro ⟨j, hj, e⟩
          by_cases hjm : j = m
          · subst hjm; exact .inr e.symm
          · exact .inl ⟨j, by omega, e⟩
    · rw [if_neg hk, List.append_nil]
      have hk' : m ≠ 0 ∧ zs.toArray[m]! = zs.toArray[m - 1]! := by simpa [Lib.keeps] using hk
      refine ⟨h1, fun x => ?_⟩
      rw [h2]
      constructor
      · rintro ⟨j, hj, e⟩
        exact ⟨j, by omega, e⟩
      · rintro ⟨j, hj, e⟩
        by_cases hjm : j = m
        · subst hjm; exact ⟨j - 1, by omega, by rw [← hk'.2]; exact e⟩
        · exact ⟨j, by omega, e⟩

theorem get_bang (zs : List Int) {i : Nat} (hi : i < zs.length) : zs.toArray[i]! = zs[i] := by
  simp [getElem!_pos, hi]
theorem compact_sorted (zs : List Int) (hz : zs.Pairwise (fun a b => a ≤ b)) : (Lib.compact zs).Pairwise (· < ·) ∧ ∀ x, x ∈ Lib.compact zs ↔ x ∈ zs := by
  have hs : ∀ i j : Nat, i ≤ j → j < zs.length → zs.toArray[i]! ≤ zs.toArray[j]! := by
    intro i j hij hj
    rw [get_bang zs hj, get_bang zs (by omega)]
    by_cases e : i = j
    · subst e; omega
    · exact List.pairwise_iff_getElem.1 hz i j (by omega) hj (by omega)
  obtain ⟨h1, h2⟩ := upTo_sorted zs hs zs.length (by omega)
  refine ⟨h1, fun b => ?_⟩
  show b ∈ Lib.compactUpTo zs.toArray zs.length ↔ _
  rw [h2]
  constructor
  · rintro ⟨j, hj, e⟩
    rw [get_bang zs hj] at e
    rw [← e]
    exact List.getElem_mem hj
  · intro hb
    obtain ⟨j, hj, e⟩ := List.getElem_of_mem hb
    exact ⟨j, hj, by rw [get_bang zs hj, e]⟩
theorem wrap_succ (i : Nat) (h : i < 1000000000) : wrap64 ((i : Int) + 1) = ((i + 1 : Nat) : Int) := by unfold wrap64; omega
theorem u64_id (n : Int) (h0 : 0 ≤ n) (h1 : n < 18446744073709551616) : IntKind.u64.wrap n = n := Go.IntWalk.u64_in n ⟨h0, by omega⟩
theorem rd28 (l : List S28) {i : Nat} (h : i < l.length) : rd_T28 l (i : Int) = l[i] := by
  unfold rd_T28
  rw [Int.toNat_natCast, List.getD_eq_getElem?_getD, List.getElem?_eq_getElem h]
  rfl
/-! ### the windows that are not empty -/
def empB (a : S28) : Bool := decide (a.f0 > a.f2) || decide (a.f1 > a.f3)
theorem rect_Empty_val (a : S28) : rect_Empty.f a.f0 a.f1 a.f2 a.f3 = some (empB a) := by
  unfold rect_Empty.f empB
  by_cases h : a.f0 > a.f2 <;> simp [h]
def fullL (l : List S28) : List S28 := l.filter fun a => !empB a
theorem fullL_not {a : S28} {r : List S28} (h : empB a = true) : fullL (a :: r) = fullL r := by unfold fullL; rw [List.filter_cons, if_neg (by simp [h])]
theorem fullL_keep {a : S28} {r : List S28} (h : empB a = false) : fullL (a :: r) = a :: fullL r := by unfold fullL; rw [List.filter_cons, if_pos (by simp [h])]
theorem idx_loop (l : List S28) (hl : l.length ≤ 1000) : ∀ (m i : Nat), i + m = l.length → (∀ j, j < i → ∀ h : j < l.length, empB l[j] = false) →
    ∃ r : Int, Ev (fun k => slices_IndexEmpty.l0 k l (l.length : Int) (i : Int)) r ∧ ((r = -1 ∧ ∀ j, ∀ h : j < l.length, empB l[j] = false) ∨ ∃ n : Nat, r = n ∧ ∃ h : n < l.length, empB l[n] = true ∧ ∀ j, j < n → ∀ h : j < l.length, empB l[j] = false) := by
  intro m
  induction m with
  | zero =>
    intro i hi ha
    refine ⟨-1, Ev.step (fun k => ?_) (Ev.now _), .inl ⟨rfl, fun j hj => ha j (by omega) hj⟩⟩
    simp only [slices_IndexEmpty.l0]
    rw [if_neg (by omega)]
  | succ m ih =>
    intro i hi ha
    have hil : i < l.length := by omega
    by_cases he : empB l[i] = true
    · refine ⟨i, Ev.step (fun k => ?_) (Ev.now _), .inr ⟨i, rfl, hil, he, ha⟩⟩
      simp only [slices_IndexEmpty.l0]
      rw [if_pos (by omega), if_pos (by omega), if_pos (by omega), rd28 l hil, rect_Empty_val]
      simp only [Option.bind_some]
      rw [if_pos he]
    · have he' : empB l[i] = false := by simpa using he
      obtain ⟨r, h1, h2⟩ := ih (i + 1) (by omega) (fun j hj h => by
        by_cases e : j = i
        · subst e; exact he'
        · exact ha j (by omega) h)
      refine ⟨r, Ev.step (fun k => ?_) h1, h2⟩
      simp only [slices_IndexEmpty.l0]
      rw [if_pos (by omega), if_pos (by omega), if_pos (by omega), rd28 l hil, rect_Empty_val]
      simp only [Option.bind_some]
      rw [if_neg he, wrap_succ i (by omega)]
theorem del_loop : ∀ (m : Nat) (l : List S28) (i j : Nat), l.length ≤ 1000 → j + m = l.length → i ≤ j →
    Ev (fun k => slices_DeleteEmpty.l0 k l (i : Int) (j : Int)) (l.take i ++ fullL (l.drop j)) := by
  intro m
  induction m with
  | zero =>
    intro l i j hl hj hij
    refine Ev.step (fun k => ?_) (Ev.now _)
    simp only [slices_DeleteEmpty.l0]
    rw [if_neg (by omega), if_pos (by omega), if_pos (by omega), List.drop_of_length_le (by omega)]
    simp [fullL, List.take_append, List.take_take]
    omega
  | succ m ih =>
    intro l i j hl hj hij
    have hjl : j < l.length := by omega
    have hd : l.drop j = l[j] :: l.drop (j + 1) := List.drop_eq_getElem_cons hjl
    by_cases he : empB l[j] = true
    · have h := ih l i (j + 1) hl (by omega) (by omega)
      have e : fullL (l.drop j) = fullL (l.drop (j + 1)) := by rw [hd]; exact fullL_not he
      rw [e]
      refine Ev.step (fun k => ?_) h
      simp only [slices_DeleteEmpty.l0]
      rw [if_pos (by omega), if_pos (by omega), rd28 l hjl, rect_Empty_val]
      simp only [Option.bind_some]
      rw [if_pos he, wrap_succ j (by omega)]
    · have he' : empB l[j] = false := by simpa using he
      have h := ih (l.set i l[j]) (i + 1) (j + 1) (by simpa using hl) (by simp; omega) (by omega)
      have e : (l.set i l[j]).take (i + 1) ++ fullL ((l.set i l[j]).drop (j + 1)) = l.take i ++ fullL (l.drop j) := by
        have e1 : (l.set i l[j]).take (i + 1) = l.take i ++ [l[j]] := by
          rw [List.take_succ_eq_append_getElem (by simp; omega), List.getElem_set_self, List.take_set_of_le (Nat.le_refl _)]
        have e2 : (l.set i l[j]).drop (j + 1) = l.drop (j + 1) := by rw [List.drop_set_of_lt (by omega)]
        rw [e1, e2, hd, fullL_keep he', List.append_assoc]
        rfl
      rw [e] at h
      refine Ev.step (fun k => ?_) h
      simp only [slices_DeleteEmpty.l0]
      rw [if_pos (by omega), if_pos (by omega), rd28 l hjl, rect_Empty_val]
      simp only [Option.bind_some]
      rw [if_neg he, if_pos (by omega), if_pos (by omega), wrap_succ j (by omega), wrap_succ i (by omega), Int.toNat_natCast]
theorem full_val (l : List S28) (hl : l.length ≤ 1000) : Ev (fun k => sweep_full.f k l) (fullL l) := by
  have hc : cloneR.f l = some l := by unfold cloneR.f; rw [if_pos (by omega)]
  have hd : Ev (fun k => slices_DeleteEmpty.f k l) (fullL l) := by
    obtain ⟨r, h1, h2⟩ := idx_loop l hl l.length 0 (by omega) (fun j hj => absurd hj (Nat.not_lt_zero _))
    have h1' : Ev (fun k => slices_IndexEmpty.f k l) r := h1
    rcases h2 with ⟨rfl, ha⟩ | ⟨n, rfl, hn, he, ha⟩
    · have e : fullL l = l := by
        unfold fullL
        rw [List.filter_eq_self]
        intro a ham
        obtain ⟨j, hj, rfl⟩ := List.getElem_of_mem ham
        simp [ha j hj]
      rw [e]
      refine Ev.bind h1' ?_
      simp only [if_true]
      exact Ev.now _
    · refine Ev.bind h1' ?_
      rw [show (fun k => if (n : Int) = -1 then some l else slices_DeleteEmpty.l0 k l (n : Int) (wrap64 ((n : Int) + 1))) = fun k => slices_DeleteEmpty.l0 k l (n : Int) (((n + 1 : Nat)) : Int) from by
        funext k
        rw [if_neg (by omega), wrap_succ n (by omega)]]
      have h := del_loop (l.length - (n + 1)) l n (n + 1) hl (by omega) (by omega)
      have e : l.take n ++ fullL (l.drop (n + 1)) = fullL l := by
        have e1 : l = l.take n ++ (l[n] :: l.drop (n + 1)) := by rw [← List.drop_eq_getElem_cons hn, List.take_append_drop]
        have e2 : fullL (l.take n) = l.take n := by
          unfold fullL
          rw [List.filter_eq_self]
          intro a ham
          obtain ⟨j, hj, rfl⟩ := List.getElem_of_mem ham
          rw [List.getElem_take]
          simp at hj
          simp [ha j (by omega) (by omega)]
        conv => rhs; rw [e1]
        unfold fullL at e2 ⊢
        rw [List.filter_append, e2, List.filter_cons, if_neg (by simp [he])]
      rw [e] at h
      exact h
  refine Ev.congr (f := fun k => (slices_DeleteEmpty.f k l).bind fun t => some t) (fun k => ?_) ?_
  · unfold sweep_full.f
    rw [hc]
    rfl
  · exact Ev.bind hd (Ev.now _)
/-! ### the cuts -/
def flatX (l : List S28) : List Int := l.flatMap fun a => [a.f0, a.f2 + 1]
def flatY (l : List S28) : List Int := l.flatMap fun a => [a.f1, a.f3 + 1]
def cutX (l : List S28) : List Int := Lib.compact (isort (flatX l))
def cutY (l : List S28) : List Int := Lib.compact (isort (flatY l))
theorem len_flat (f g : S28 → Int) (l : List S28) : (l.flatMap fun a => [f a, g a]).length = 2 * l.length := by
  induction l with
  | nil => rfl
  | cons a l ih => simp only [List.flatMap_cons, List.length_append, List.length_cons, List.length_nil, ih]; omega
theorem isX (l : List S28) : IsX l (cutX l) := by
  obtain ⟨h1, h2⟩ := compact_sorted _ (isort_rises (flatX l))
  refine ⟨h1, fun c => ?_⟩
  unfold cutX
  rw [h2, (isort_perm _).mem_iff]
  simp [flatX]
theorem isY (l : List S28) : IsY l (cutY l) := by
  obtain ⟨h1, h2⟩ := compact_sorted _ (isort_rises (flatY l))
  refine ⟨h1, fun c => ?_⟩
  unfold cutY
  rw [h2, (isort_perm _).mem_iff]
  simp [flatY]
theorem cutsX_loop (l : List S28) (hl : l.length ≤ 400) (hw : ∀ a ∈ l, okR a) : ∀ (m i : Nat) (out : List Int), i + m = l.length → out.length = 2 * i →
    Ev (fun k => sweep_cutsX.l0 k out l (l.length : Int) (i : Int)) (Lib.compact (isort (out ++ flatX (l.drop i)))) := by
  intro m
  induction m with
  | zero =>
    intro i out hi ho
    rw [List.drop_of_length_le (by omega)]
    refine Ev.step (fun k => ?_) (Ev.now _)
    simp only [sweep_cutsX.l0]
    rw [if_neg (by omega)]
    unfold sortU.f compactU.f
    rw [if_pos (by omega)]
    simp [flatX]
  | succ m ih =>
    intro i out hi ho
    have hil : i < l.length := by omega
    have hd : l.drop i = l[i] :: l.drop (i + 1) := List.drop_eq_getElem_cons hil
    have h := ih (i + 1) (out ++ [l[i].f0, l[i].f2 + 1]) (by omega) (by simp; omega)
    have hok := hw l[i] (List.getElem_mem hil)
    unfold okR BIG at hok
    have e : out ++ flatX (l.drop i) = out ++ [l[i].f0, l[i].f2 + 1] ++ flatX (l.drop (i + 1)) := by rw [hd, List.append_assoc]; rfl
    rw [e]
    refine Ev.step (fun k => ?_) h
    simp only [sweep_cutsX.l0, sweep_Union_1.f, Option.bind_some]
    rw [if_pos (by omega), if_pos (by omega), if_pos (by omega), rd28 l hil, wrap_succ i (by omega), u64_id _ (by omega) (by omega), u64_id l[i].f2 (by omega) (by omega), u64_id (l[i].f2 + 1) (by omega) (by omega)]
    rw [if_pos (by simp; omega)]
theorem cutsX_val (l : List S28) (hl : l.length ≤ 400) (hw : ∀ a ∈ l, okR a) : Ev (fun k => sweep_cutsX.f k l) (cutX l) := by
  have := cutsX_loop l hl hw l.length 0 [] (by omega) rfl
  simpa [cutX, sweep_cutsX.f] using this
theorem cutsY_loop (l : List S28) (hl : l.length ≤ 400) (hw : ∀ a ∈ l, okR a) : ∀ (m i : Nat) (out : List Int), i + m = l.length → out.length = 2 * i →
    Ev (fun k => sweep_cutsY.l0 k out l (l.length : Int) (i : Int)) (Lib.compact (isort (out ++ flatY (l.drop i)))) := by
  intro m
  induction m with
  | zero =>
    intro i out hi ho
    rw [List.drop_of_length_le (by omega)]
    refine Ev.step (fun k => ?_) (Ev.now _)
    simp only [sweep_cutsY.l0]
    rw [if_neg (by omega)]
    unfold sortU.f compactU.f
    rw [if_pos (by omega)]
    simp [flatY]
  | succ m ih =>
    intro i out hi ho
    have hil : i < l.length := by omega
    have hd : l.drop i = l[i] :: l.drop (i + 1) := List.drop_eq_getElem_cons hil
    have h := ih (i + 1) (out ++ [l[i].f1, l[i].f3 + 1]) (by omega) (by simp; omega)
    have hok := hw l[i] (List.getElem_mem hil)
    unfold okR BIG at hok
    have e : out ++ flatY (l.drop i) = out ++ [l[i].f1, l[i].f3 + 1] ++ flatY (l.drop (i + 1)) := by rw [hd, List.append_assoc]; rfl
    rw [e]
    refine Ev.step (fun k => ?_) h
    simp only [sweep_cutsY.l0, sweep_Union_2.f, Option.bind_some]
    rw [if_pos (by omega), if_pos (by omega), if_pos (by omega), rd28 l hil, wrap_succ i (by omega), u64_id _ (by omega) (by omega), u64_id l[i].f3 (by omega) (by omega), u64_id (l[i].f3 + 1) (by omega) (by omega)]
    rw [if_pos (by simp; omega)]
theorem cutsY_val (l : List S28) (hl : l.length ≤ 400) (hw : ∀ a ∈ l, okR a) : Ev (fun k => sweep_cutsY.f k l) (cutY l) := by
  have := cutsY_loop l hl hw l.length 0 [] (by omega) rfl
  simpa [cutY, sweep_cutsY.f] using this
end Go.Proofs.Ytjehhfhkbboamaa.P
