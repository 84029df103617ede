-- Written by xprint.py, a program of this work, round the kit's print.
/- sweep.tall: how much of a column is had by some; with the library's two functions below it, and its closure. -/
import Derived.Test.YtjehhfhkbboamaaPx0
import Derived.Test.YtjehhfhkbboamaaPx5
import Derived.StillTailTactics
import Derived.Deep.QuietTactic
import Derived.BigQuiet
import Derived.IntWalk
import Derived.Lib.SliceRun
namespace Go.Proofs.Ytjehhfhkbboamaa.P
open Go.RowKit Go.Proofs.YtjehhfhkbboamaaW.PrintWords Go.Proofs.YtjehhfhkbboamaaW.PrintLast Go.Proofs.YtjehhfhkbboamaaW.PrintMore
attribute [local go_sem] max2_int min2_int max_two min_two max_three min_three max_four min_four   -- for this text's walks alone
attribute [local go_sem] add64_run carryOk_zero   -- for this text's walks alone
set_option linter.unusedVariables false
set_option linter.unusedSimpArgs false

def hasR (a : S28) (x y : Int) : Bool := decide (x ≥ a.f0) && decide (x ≤ a.f2) && decide (y ≥ a.f1) && decide (y ≤ a.f3)
theorem rect_Has_val (a0 a1 a2 a3 x y : Int) : rect_Has.f a0 a1 a2 a3 x y = some (hasR ⟨a0, a1, a2, a3⟩ x y) := by
  unfold rect_Has.f hasR
  by_cases h1 : x ≥ a0 <;> by_cases h2 : x ≤ a2 <;> by_cases h3 : y ≥ a1 <;> simp [h1, h2, h3]
theorem drew_cell (W : World) (p : Addr) : W.drew.cell? p = W.cell? p := rfl
theorem tallB.calls (x : S28) (bx by_ bi ad : Addr) (xv iv : Int) (n2 c2 : Nat) (yv : Int) (W : World) (hx : W.cell? bx = some (.int .u32 xv)) (hy : W.cell? by_ = some (.slice (some ad) n2 c2)) (hi : W.cell? bi = some (.int .i64 iv))
    (hc : W.cell? (ad.add (iv.toNat - 1)) = some (.int .u64 yv)) (h1 : 1 ≤ iv) (h2 : iv - 1 < n2) (h3 : iv < 9223372036854775807) :
    Calls Try.prog 27 #[.agg #[.int .u32 x.f0, .int .u32 x.f1, .int .u32 x.f2, .int .u32 x.f3], .pointer (some bx), .pointer (some by_), .pointer (some bi)] W fun e w' => e = .returned (.bool (hasR x xv (yv % 4294967296))) ∧ Below W.heap.size W w' := by
  have hu28 := Try.underlying28
  have hw1 : IntKind.i64.wrap (iv - 1) = iv - 1 := IntWalk.i64_in _ (by omega)
  have hn1 : 0 ≤ iv - 1 := by omega
  obtain ⟨W1, hW1⟩ : ∃ W1, W1 = W.alloc (.cells #[.int .u32 x.f0, .int .u32 x.f1, .int .u32 x.f2, .int .u32 x.f3] 28) := ⟨_, rfl⟩
  have HB : Aside0 (Below W.heap.size W W1) := Aside0.mk (by rw [hW1]; exact below_alloc (Below.refl _ _) _)
  have g0 : W1.drew.cell? ⟨W.heap.size, 0, none⟩ = some (.int .u32 x.f0) := by rw [hW1, drew_cell]; go_simp
  have g1 : W1.drew.cell? ⟨W.heap.size, 1, none⟩ = some (.int .u32 x.f1) := by rw [hW1, drew_cell]; go_simp
  have g2 : W1.drew.cell? ⟨W.heap.size, 2, none⟩ = some (.int .u32 x.f2) := by rw [hW1, drew_cell]; go_simp
  have g3 : W1.drew.cell? ⟨W.heap.size, 3, none⟩ = some (.int .u32 x.f3) := by rw [hW1, drew_cell]; go_simp
  have hx' : W1.drew.cell? bx = some (.int .u32 xv) := by rw [hW1, drew_cell]; exact Lib.cell?_alloc_some _ hx
  have hy' : W1.drew.cell? by_ = some (.slice (some ad) n2 c2) := by rw [hW1, drew_cell]; exact Lib.cell?_alloc_some _ hy
  have hi' : W1.drew.cell? bi = some (.int .i64 iv) := by rw [hW1, drew_cell]; exact Lib.cell?_alloc_some _ hi
  have hc' : W1.drew.cell? (ad.add (iv.toNat - 1)) = some (.int .u64 yv) := by rw [hW1, drew_cell]; exact Lib.cell?_alloc_some _ hc
  have HB2 : Aside0 (Below W.heap.size W W1.drew) := Aside0.mk (below_drew1 HB.out)
  have hW := Aside0.mk hW1
  clear hx hy hi hc hW1 HB
  go_enter Try.func27, Try.ntmps27
  go_wp2
  rw [← hW.out]
  clear hW
  refine wp_region_still_tail 8 (by kernel_rfl) (by kernel_rfl) ?_
  simp only [List.take_succ_cons, List.take_zero, List.drop_succ_cons, List.drop_zero]
  have hd : ({ heap := W1.heap, tape := W1.tape, drawn := W1.drawn + 1, os := W1.os, output := W1.output } : World) = W1.drew := rfl
  rw [hd]
  clear hd
  generalize W1.drew = W2 at *
  repeat still_step
  try refine wpStill_nil ?_
  go_wp2_with (go_at_call 19; (with_reducible refine (rect_Has.calls _ _ _ _ _ _ _ _ (rect_Has_val _ _ _ _ _ _)).mono ?_); rintro e w8 ⟨rfl, hb⟩)
  go_ret
  exact ⟨rfl, below_step HB2.out hb⟩
/-- The first place at which p holds, or -1. -/
def idxFrom (p : S28 → Bool) : List S28 → Int → Int
  | [], _ => -1
  | x :: r, i => if p x then i else idxFrom p r (i + 1)
theorem idxFrom_hit (p : S28 → Bool) : ∀ (l : List S28) (k : Nat) (i : Int), k < l.length → (∀ j, j < k → p (rd_T28 l j) = false) → p (rd_T28 l k) = true → idxFrom p l i = i + k := by
  intro l
  induction l with
  | nil => intro k i h; simp at h
  | cons x r ih =>
    intro k i hk ha ht
    cases k with
    | zero =>
      have : p x = true := by simpa [rd_T28] using ht
      simp [idxFrom, this]
    | succ k =>
      have h0 : p x = false := by simpa [rd_T28] using ha 0 (by omega)
      have h1 := ih k (i + 1) (by simpa using hk) (fun j hj => by simpa [rd_T28] using ha (j + 1) (by omega)) (by simpa [rd_T28] using ht)
      simp [idxFrom, h0, h1]
      omega
theorem idxFrom_miss (p : S28 → Bool) : ∀ (l : List S28) (i : Int), (∀ j, j < l.length → p (rd_T28 l j) = false) → idxFrom p l i = -1 := by
  intro l
  induction l with
  | nil => intro i _; rfl
  | cons x r ih =>
    intro i ha
    have h0 : p x = false := by simpa [rd_T28] using ha 0 (by simp)
    simp only [idxFrom, h0]
    rw [if_neg (by simp)]
    exact ih _ (fun j hj => by simpa [rd_T28] using ha (j + 1) (by simpa using hj))
theorem idxFrom_nonneg (p : S28 → Bool) : ∀ (l : List S28) (i : Int), 0 ≤ i → (0 ≤ idxFrom p l i ↔ l.any p = true) := by
  intro l
  induction l with
  | nil => intro i _; simp [idxFrom]
  | cons x r ih =>
    intro i hi
    simp only [idxFrom, List.any_cons]
    by_cases hp : p x = true
    · rw [if_pos hp, hp]; simpa using hi
    · rw [if_neg hp]
      have := ih (i + 1) (by omega)
      rw [this]
      simp [hp]
set_option maxHeartbeats 1000000 in
set_option maxRecDepth 100000 in
theorem idxT.calls (A0 : Option Addr) (c0 : Nat) (l0 : List S28) (p1 p2 p3 : Value) (p : S28 → Bool) (w : World) (hr0 : Kd.C k28 w A0 l0.length l0) (hc0 : l0.length ≤ c0)
    (hp : ∀ (W : World) (x : S28), Below w.heap.size w W → Calls Try.prog 27 #[.agg #[.int .u32 x.f0, .int .u32 x.f1, .int .u32 x.f2, .int .u32 x.f3], p1, p2, p3] W fun e w' => e = .returned (.bool (p x)) ∧ Below W.heap.size W w') :
    Calls Try.prog 29 #[.slice A0 l0.length c0, .func (.func 27) #[] #[p1, p2, p3]] w fun e w' => e = .returned (.int .i64 (idxFrom p l0 0)) ∧ Below w.heap.size w w' := by
  have hu28 := Try.underlying28
  have HR0 := Aside0.mk hr0
  have HC0 := Aside0.mk hc0
  have HP := Aside0.mk hp
  have HL := Aside0.mk hr0.2.1
  clear hr0 hc0 hp
  have HB := Aside0.mk (Below.refl w.heap.size w)
  go_enter Try.func29, Try.ntmps29
  go_wp2
  go_loopg [8] l0.length (fun kq v8 w' => ∃ j : Nat, v8 = .int .i64 j ∧ Aside0 (j ≤ l0.length ∧ l0.length - j ≤ kq) ∧ Aside0 (∀ t, t < j → p (rd_T28 l0 t) = false) ∧ Aside0 (Below w.heap.size w w'))
  case atStart => exact ⟨0, by simp, ⟨by omega⟩, ⟨fun t ht => absurd ht (Nat.not_lt_zero _)⟩, HB⟩
  case round =>
    clear HB
    obtain ⟨j, rfl, HJ, HA, HB⟩ := hrel
    by_cases hlt : j < l0.length
    · have q1 : (j : Int) < (l0.length : Int) := by omega
      have q0 : 0 ≤ (j : Int) := by omega
      have q1' : decide (j < l0.length) = true := by simpa using hlt
      obtain ⟨ad, e, hx0, hx1, hx2, hx3⟩ := at_T28 HR0.out j q0 q1
      cases e
      simp only [Int.toNat_natCast] at hx0 hx1 hx2 hx3
      replace hx0 := (HB.out.cell (World.block_lt_of_cell? w _ hx0)).trans hx0
      replace hx1 := (HB.out.cell (World.block_lt_of_cell? w _ hx1)).trans hx1
      replace hx2 := (HB.out.cell (World.block_lt_of_cell? w _ hx2)).trans hx2
      replace hx3 := (HB.out.cell (World.block_lt_of_cell? w _ hx3)).trans hx3
      have hcall := Aside0.mk (fun W hW => HP.out W (rd_T28 l0 j) hW)
      cases hq : p (rd_T28 l0 j) with
      | true =>
        rw [hq] at hcall
        have HQ := Aside0.mk hq
        clear hq
        go_wp2_with (go_at_call 27; refine (hcall.out _ ?hw).mono ?_; (case hw => repeat (first | exact HB.out | apply below_alloc | apply pw_below_drewN | apply below_drew1)); rintro e w' ⟨rfl, hb⟩; have n0_ := Aside0.mk (below_step (by repeat (first | exact HB.out | apply below_alloc | apply pw_below_drewN | apply below_drew1)) hb); clear HB; have HB := n0_; clear n0_ hb)
        go_ret
        refine ⟨?_, HB.out⟩
        rw [idxFrom_hit p l0 j 0 hlt HA.out HQ.out]
        simp
      | false =>
        rw [hq] at hcall
        have HQ := Aside0.mk hq
        clear hq
        go_wp2_with (go_at_call 27; refine (hcall.out _ ?hw).mono ?_; (case hw => repeat (first | exact HB.out | apply below_alloc | apply pw_below_drewN | apply below_drew1)); rintro e w' ⟨rfl, hb⟩; have n0_ := Aside0.mk (below_step (by repeat (first | exact HB.out | apply below_alloc | apply pw_below_drewN | apply below_drew1)) hb); clear HB; have HB := n0_; clear n0_ hb)
        go_roundg (l0.length - (j + 1))
        case measure => have := HJ.out; omega
        case rel =>
          refine ⟨j + 1, by have h1 := HL.out; have h2 : wrap64 ((j : Int) + 1) = ((j + 1 : Nat) : Int) := (by unfold wrap64; omega); first | rw [h2] | rfl, ⟨by have := HJ.out; omega⟩, ⟨fun t ht => ?_⟩, HB⟩
          by_cases e : t = j
          · subst e; exact HQ.out
          · exact HA.out t (by omega)
    · have q1 : ¬ (j : Int) < (l0.length : Int) := by omega
      have q1' : decide (j < l0.length) = false := by simpa using hlt
      go_wp2
      go_ret
      refine ⟨?_, HB.out⟩
      rw [idxFrom_miss p l0 0 (fun t ht => HA.out t (by omega))]
      rfl
set_option maxHeartbeats 1000000 in
theorem contT.calls (A0 : Option Addr) (c0 : Nat) (l0 : List S28) (p1 p2 p3 : Value) (p : S28 → Bool) (w : World) (hr0 : Kd.C k28 w A0 l0.length l0) (hc0 : l0.length ≤ c0)
    (hp : ∀ (W : World) (x : S28), Below w.heap.size w W → Calls Try.prog 27 #[.agg #[.int .u32 x.f0, .int .u32 x.f1, .int .u32 x.f2, .int .u32 x.f3], p1, p2, p3] W fun e w' => e = .returned (.bool (p x)) ∧ Below W.heap.size W w') :
    Calls Try.prog 26 #[.slice A0 l0.length c0, .func (.func 27) #[] #[p1, p2, p3]] w fun e w' => e = .returned (.bool (l0.any p)) ∧ Below w.heap.size w w' := by
  have hcall := Aside0.mk (idxT.calls A0 c0 l0 p1 p2 p3 p w hr0 hc0 hp)
  clear hr0 hc0 hp
  have e : decide (0 ≤ idxFrom p l0 0) = l0.any p := by
    have := idxFrom_nonneg p l0 0 (by omega)
    rw [Bool.eq_iff_iff, decide_eq_true_eq]
    exact this
  have E := Aside0.mk e
  clear e
  go_enter Try.func26, Try.ntmps26
  go_wp2_with (go_at_call 29; refine hcall.out.mono ?_; rintro e w' ⟨rfl, hb⟩)
  go_ret
  refine ⟨?_, hb⟩
  rw [← E.out]
  rfl
def TallIn (w w' : World) (a1 : Int) (A2 : Option Addr) (n2 c2 g : Nat) (j : Int) : Prop :=
  Below w.heap.size w w' ∧ w.heap.size + 2 ≤ g ∧ g < w'.heap.size ∧ w'.heap[w.heap.size]? = some (.cells #[.int .u32 a1] 25 (0, 0)) ∧ w'.heap[w.heap.size + 1]? = some (.cells #[.slice A2 n2 c2] 38 (0, 0)) ∧ w'.heap[g]? = some (.cells #[.int .i64 j] 3 (0, 0))
def tallSum (l : List S28) (x : Int) : Int → List Int → Int
  | s, a :: b :: r => tallSum l x (if (l.any fun q => hasR q x (a % 4294967296)) = true then IntKind.u64.wrap (s + IntKind.u64.wrap (b - a)) else s) (b :: r)
  | s, _ => s
def tall.f (l : List S28) (x : Int) (ys : List Int) : Option Int := if l.length ≤ 1000000 ∧ ys.length ≤ 1000000 then some (tallSum l x 0 ys) else none
theorem TallIn.next {w wr w2 : World} {a1 : Int} {A2 : Option Addr} {n2 c2 g : Nat} {j k : Int} (h : TallIn w wr a1 A2 n2 c2 g j) (hb : Below wr.heap.size wr w2) : TallIn w (w2.alloc (.cells #[.int .i64 k] 3)) a1 A2 n2 c2 w2.heap.size k := by
  obtain ⟨h1, h2, h3, h4, h5, h6⟩ := h
  have hs := hb.size
  have hb2 := below_alloc hb (.cells #[.int .i64 k] 3)
  exact ⟨below_step h1 hb2, by omega, by simp, blk_below h4 hb2, blk_below h5 hb2, blk_new _ _⟩
theorem tallSum_step (l : List S28) (x s : Int) (ys : List Int) (j : Nat) (h1 : 1 ≤ j) (h2 : j < ys.length) :
    tallSum l x s (ys.drop (j - 1)) = tallSum l x (if (l.any fun q => hasR q x (rd ys ((j : Int) - 1) % 4294967296)) = true then IntKind.u64.wrap (s + IntKind.u64.wrap (rd ys (j : Int) - rd ys ((j : Int) - 1))) else s) (ys.drop j) := by
  have e1 : ys.drop (j - 1) = rd ys ((j : Int) - 1) :: ys.drop j := by
    rw [List.drop_eq_getElem_cons (show j - 1 < ys.length by omega), show j - 1 + 1 = j from by omega]
    congr 1
    unfold rd
    rw [show ((j : Int) - 1).toNat = j - 1 from by omega, List.getD_eq_getElem?_getD, List.getElem?_eq_getElem (by omega)]
    rfl
  have e2 : ys.drop j = rd ys (j : Int) :: ys.drop (j + 1) := by
    rw [List.drop_eq_getElem_cons h2]
    congr 1
    unfold rd
    rw [Int.toNat_natCast, List.getD_eq_getElem?_getD, List.getElem?_eq_getElem (by omega)]
    rfl
  rw [e1, e2]
  rfl
set_option maxHeartbeats 1000000 in
set_option maxRecDepth 100000 in
theorem tall.calls (A0 : Option Addr) (c0 : Nat) (l0 : List S28) (a1 : Int) (A2 : Option Addr) (c2 : Nat) (l2 : List Int) (r : Int) (w : World) (hr0 : Kd.C k28 w A0 l0.length l0) (hc0 : l0.length ≤ c0) (hr2 : Kd.C (Kd.int .u64) w A2 l2.length l2) (hc2 : l2.length ≤ c2) (h : tall.f l0 a1 l2 = some r) :
    Calls Try.prog 17 #[.slice A0 l0.length c0, .int .u32 a1, .slice A2 l2.length c2] w fun e w' => e = .returned (.int .u64 r) ∧ Below w.heap.size w w' := by
  unfold tall.f at h
  by_cases hl : l0.length ≤ 1000000 ∧ l2.length ≤ 1000000
  · rw [if_pos hl] at h
    have H := Aside0.mk (Option.some.inj h)
    have HL := Aside0.mk hl
    have HR0 := Aside0.mk hr0
    have HC0 := Aside0.mk hc0
    have HR2 := Aside0.mk hr2
    clear hr0 hc0 hr2 hc2 h hl
    go_enter Try.func17, Try.ntmps17
    go_wp2
    go_loopg [7, 8] l2.length (fun kq v7 v8 w' => ∃ (s : Int) (g : Nat) (j : Nat), v7 = .int .u64 s ∧ v8 = .pointer (some ⟨g, 0, none⟩) ∧ Aside0 (TallIn w w' a1 A2 l2.length c2 g j) ∧ Aside0 (1 ≤ j ∧ l2.length - j ≤ kq) ∧ Aside0 (tallSum l0 a1 s (l2.drop (j - 1)) = r))
    case atStart =>
      refine ⟨0, w.heap.size + 2, 1, rfl, rfl, ⟨?_⟩, ⟨by omega⟩, H⟩
      refine ⟨below_alloc (below_alloc (below_alloc (Below.refl _ _) _) _) _, Nat.le_refl _, by simp, ?_, ?_, ?_⟩
      · exact blk_below (blk_new w _) (below_alloc (below_alloc (Below.refl _ _) _) _)
      · have := blk_below (blk_new (w.alloc (.cells #[.int .u32 a1] 25)) (.cells #[.slice A2 l2.length c2] 38)) (below_alloc (Below.refl _ _) (.cells #[.int .i64 1] 3))
        simpa using this
      · have := blk_new ((w.alloc (.cells #[.int .u32 a1] 25)).alloc (.cells #[.slice A2 l2.length c2] 38)) (.cells #[.int .i64 1] 3)
        simpa using this
    case round =>
      clear H
      obtain ⟨s, g, j, rfl, rfl, HT, HJ, HS⟩ := hrel
      obtain ⟨tb, tg, tl, t1, t2, t3⟩ := HT.out
      have k1 := blk_cell t1 0
      have k2 := blk_cell t2 0
      have k3 := blk_cell t3 0
      simp only [List.getElem?_toArray, List.getElem?_cons_zero] at k1 k2 k3
      have KK := Aside0.mk (show wr.cell? ⟨w.heap.size, 0, none⟩ = some (.int .u32 a1) ∧ wr.cell? ⟨w.heap.size + 1, 0, none⟩ = some (.slice A2 l2.length c2) ∧ wr.cell? ⟨g, 0, none⟩ = some (.int .i64 j) from ⟨k1, k2, k3⟩)
      by_cases hlt : j < l2.length
      · have q1 : decide (j < l2.length) = true := by simpa using hlt
        have hj1 : 1 ≤ j := HJ.out.1
        have hlen : l2.length ≤ 1000000 := HL.out.2
        obtain ⟨ad, e, hy0⟩ := Kd.at_int HR2.out ((j : Int) - 1) (by omega) (by omega)
        cases e
        obtain ⟨ad', e', hy1⟩ := Kd.at_int HR2.out (j : Int) (by omega) (by omega)
        cases e'
        rw [show ((j : Int) - 1).toNat = j - 1 from by omega] at hy0
        rw [Int.toNat_natCast] at hy1
        replace hy0 := (tb.cell (World.block_lt_of_cell? w _ hy0)).trans hy0
        replace hy1 := (tb.cell (World.block_lt_of_cell? w _ hy1)).trans hy1
        have hcont := contT.calls A0 c0 l0 (.pointer (some ⟨w.heap.size, 0, none⟩)) (.pointer (some ⟨w.heap.size + 1, 0, none⟩)) (.pointer (some ⟨g, 0, none⟩)) (fun q => hasR q a1 (rd l2 ((j : Int) - 1) % 4294967296)) wr (Kd.C_below HR0.out tb) HC0.out
          (fun W x hW => tallB.calls x _ _ _ ad a1 j l2.length c2 _ W ((hW.cell (World.block_lt_of_cell? wr _ k1)).trans k1) ((hW.cell (World.block_lt_of_cell? wr _ k2)).trans k2) ((hW.cell (World.block_lt_of_cell? wr _ k3)).trans k3) (by rw [Int.toNat_natCast]; exact (hW.cell (World.block_lt_of_cell? wr _ hy0)).trans hy0) (by omega) (by omega) (by omega))
        obtain ⟨b, hb0⟩ : ∃ b, b = (l0.any fun q => hasR q a1 (rd l2 ((j : Int) - 1) % 4294967296)) := ⟨_, rfl⟩
        rw [← hb0] at hcont
        have HB0 := Aside0.mk hb0
        have HCONT := Aside0.mk hcont
        have HY := Aside0.mk (And.intro hy0 hy1)
        have HJ1 := Aside0.mk (And.intro hj1 hlen)
        have p1 : IntKind.i64.wrap ((j : Int) - 1) = (j : Int) - 1 := IntWalk.i64_in _ (by omega)
        have p2 : 0 ≤ (j : Int) - 1 := by omega
        have p3 : (j : Int) - 1 < (l2.length : Int) := by omega
        have p4 : ((j : Int) - 1).toNat = j - 1 := by omega
        have p5 : wrap64 ((j : Int) - 1) = (j : Int) - 1 := by unfold wrap64; omega
        have P := Aside0.mk (And.intro p1 (And.intro p2 (And.intro p3 (And.intro p4 p5))))
        have HLT := Aside0.mk hlt
        clear p1 p2 p3 p4 p5 hb0 hcont hy0 hy1 hj1 hlen t1 t2 t3 tb tg tl
        cases b with
        | true =>
          go_wp2_with (go_at_call 26; refine HCONT.out.mono ?_; rintro e w2 ⟨rfl, hb⟩; have HB2 := Aside0.mk hb; have k1' := (hb.cell (World.block_lt_of_cell? wr _ KK.out.1)).trans KK.out.1; have k2' := (hb.cell (World.block_lt_of_cell? wr _ KK.out.2.1)).trans KK.out.2.1; have k3' := (hb.cell (World.block_lt_of_cell? wr _ KK.out.2.2)).trans KK.out.2.2; have y0' := (hb.cell (World.block_lt_of_cell? wr _ HY.out.1)).trans HY.out.1; have y1' := (hb.cell (World.block_lt_of_cell? wr _ HY.out.2)).trans HY.out.2; clear k1 k2 k3 hb; obtain ⟨p1, p2, p3, p4, p5⟩ := P.out)
          go_quiet (fail)
          generalize hw3 : World.drewN w2 _ = w3
          have k4 : w3.cell? ⟨g, 0, none⟩ = some (.int .i64 j) := by rw [← hw3]; exact k3'
          have HB3 := Aside0.mk (show Below wr.heap.size wr w3 from by rw [← hw3]; exact pw_below_drewN HB2.out _)
          clear hw3 k1' k2' k3' y0' y1' p1 p2 p3 p4 p5
          go_wp2
          go_roundg (l2.length - (j + 1))
          case measure => have := HLT.out; have := HJ.out; omega
          case rel =>
            refine ⟨_, w3.heap.size, j + 1, rfl, rfl, ⟨?_⟩, ⟨by have := HLT.out; have := HJ.out; omega⟩, ⟨?_⟩⟩
            · rw [show wrap64 ((j : Int) + 1) = ((j + 1 : Nat) : Int) from by have := HLT.out; have := HJ1.out; unfold wrap64; omega]
              exact TallIn.next HT.out HB3.out
            · rw [← HS.out, tallSum_step l0 a1 s l2 j HJ1.out.1 HLT.out, if_pos HB0.out.symm]
              rfl
        | false =>
          go_wp2_with (go_at_call 26; refine HCONT.out.mono ?_; rintro e w2 ⟨rfl, hb⟩; have HB2 := Aside0.mk hb; have k3' := (hb.cell (World.block_lt_of_cell? wr _ KK.out.2.2)).trans KK.out.2.2; clear k1 k2 k3 hb)
          go_roundg (l2.length - (j + 1))
          case measure => have := HLT.out; have := HJ.out; omega
          case rel =>
            refine ⟨s, w2.heap.size, j + 1, rfl, rfl, ⟨?_⟩, ⟨by have := HLT.out; have := HJ.out; omega⟩, ⟨?_⟩⟩
            · rw [show wrap64 ((j : Int) + 1) = ((j + 1 : Nat) : Int) from by have := HLT.out; have := HJ1.out; unfold wrap64; omega]
              exact TallIn.next HT.out HB2.out
            · rw [← HS.out, tallSum_step l0 a1 s l2 j HJ1.out.1 HLT.out, if_neg (by rw [← HB0.out]; simp)]
              rfl
      · have q1 : decide (j < l2.length) = false := by simpa using hlt
        clear t1 t2 t3 tb tg tl
        go_wp2
        go_ret
        refine ⟨?_, HT.out.1⟩
        have h1 := HS.out
        have h2 : (l2.drop (j - 1)).length ≤ 1 := by rw [List.length_drop]; have := HJ.out; omega
        match h3 : l2.drop (j - 1), h2 with
        | [], _ => rw [h3] at h1; rw [← h1]; rfl
        | [a], _ => rw [h3] at h1; rw [← h1]; rfl
  · rw [if_neg hl] at h
    simp at h

end Go.Proofs.Ytjehhfhkbboamaa.P
