-- Written by xprint.py, a program of this work, round the kit's print.
import Derived.Test.YtjalbacdcfbmgaaPx0
import Derived.Test.YtjalbacdcfbmgaaPx2
import Derived.Test.YtjalbacdcfbmgaaPx6
namespace Go.Proofs.Ytjalbacdcfbmgaa.P
open Go.RowKit Go.Proofs.YtjalbacdcfbmgaaW.PrintWords Go.Proofs.YtjalbacdcfbmgaaW.PrintLast Go.Proofs.YtjalbacdcfbmgaaW.PrintMore
attribute [local go_sem] max2_int min2_int max_two min_two max_three min_three max_four min_four   -- for this text's walks alone
attribute [local go_sem] add64_run carryOk_zero   -- for this text's walks alone
set_option linter.unusedVariables false
set_option linter.unusedSimpArgs false

attribute [local go_sem high] eqA31
/-! ### croftlaw42_SpanRoads: function 3 -/
mutual
def croftlaw42_SpanRoads.j0 : Nat → List (S36) → Option (Bool)
  | 0, _ => none
  | k + 1, x0 => (span_Roads.f k x0).bind fun t196 => (if 0 ≤ (x0.length : Int) then (if ((x0.length : Int) : Int).toNat ≤ 35184372088832 then (croftlaw42_SpanRoads.l0 k x0 t196 (List.replicate ((x0.length : Int) : Int).toNat 0) 0) else (none)) else (none))
def croftlaw42_SpanRoads.l0 : Nat → List (S36) → List (S31) → List Int → Int → Option (Bool)
  | 0, _, _, _, _ => none
  | k + 1, x0, x3, x4, x5 => if x5 < (x0.length : Int) then (if 0 ≤ x5 then (if x5 < (x4.length : Int) then (croftlaw42_SpanRoads.l0 k x0 x3 (x4.set (x5 : Int).toNat x5) (wrap64 (x5 + 1))) else (none)) else (none)) else (if (x3.length : Int) = (mx (wrap64 ((x0.length : Int) - 1)) 0) then (croftlaw42_SpanRoads.l1 k x0 x3 x4 0) else (some false))
def croftlaw42_SpanRoads.l1 : Nat → List (S36) → List (S31) → List Int → Int → Option (Bool)
  | 0, _, _, _, _ => none
  | k + 1, x0, x3, x4, x6 => if x6 < (x3.length : Int) then (croftlaw42_SpanRoads.l2 k x0 x3 x4 x6 0 (-1) 0 0 0) else (some true)
def croftlaw42_SpanRoads.l2 : Nat → List (S36) → List (S31) → List Int → Int → Int → Int → Int → Int → Int → Option (Bool)
  | 0, _, _, _, _, _, _, _, _, _ => none
  | k + 1, x0, x3, x4, x6, x8, x204000, x204001, x204002, x204003 => if x8 < (x0.length : Int) then (croftlaw42_SpanRoads.l3 k x0 x3 x4 x6 x8 (wrap64 (x8 + 1)) x204000 x204001 x204002 x204003) else (if 0 ≤ x6 then (if x6 < (x3.length : Int) then (if (!(((rd_T31 x3 x6).f0) == x204000) || (!(((rd_T31 x3 x6).f1) == x204001) || ((!(((rd_T31 x3 x6).f2.f0) == x204002) || (!(((rd_T31 x3 x6).f2.f1) == x204003)))))) = true then (some false) else (if 0 ≤ x204000 then (if x204000 < (x4.length : Int) then (if 0 ≤ x204001 then (if x204001 < (x4.length : Int) then (croftlaw42_SpanRoads.l4 k x0 x3 x4 x6 (rd x4 x204000) (rd x4 x204001) 0) else (none)) else (none)) else (none)) else (none))) else (none)) else (none))
def croftlaw42_SpanRoads.l3 : Nat → List (S36) → List (S31) → List Int → Int → Int → Int → Int → Int → Int → Int → Option (Bool)
  | 0, _, _, _, _, _, _, _, _, _, _ => none
  | k + 1, x0, x3, x4, x6, x8, x9, x204000, x204001, x204002, x204003 => if x9 < (x0.length : Int) then (if 0 ≤ x8 then (if x8 < (x0.length : Int) then (if 0 ≤ x9 then ((croftref03_Between.f ((rd_T36 x0 x8).f1) ((rd_T36 x0 x8).f2) ((rd_T36 x0 x9).f1) ((rd_T36 x0 x9).f2)).bind fun bt208 => (if x8 < (x4.length : Int) then (if x9 < (x4.length : Int) then (if (rd x4 x8) = (rd x4 x9) then (croftlaw42_SpanRoads.l3 k x0 x3 x4 x6 x8 (wrap64 (x9 + 1)) x204000 x204001 x204002 x204003) else (if x204000 < 0 then (croftlaw42_SpanRoads.l3 k x0 x3 x4 x6 x8 (wrap64 (x9 + 1)) x8 x9 bt208.1 bt208.2) else ((croftref03_Less.f bt208.1 bt208.2 x204002 x204003).bind fun t212 => (if t212 = true then (croftlaw42_SpanRoads.l3 k x0 x3 x4 x6 x8 (wrap64 (x9 + 1)) x8 x9 bt208.1 bt208.2) else (croftlaw42_SpanRoads.l3 k x0 x3 x4 x6 x8 (wrap64 (x9 + 1)) x204000 x204001 x204002 x204003))))) else (none)) else (none))) else (none)) else (none)) else (none)) else (croftlaw42_SpanRoads.l2 k x0 x3 x4 x6 (wrap64 (x8 + 1)) x204000 x204001 x204002 x204003)
def croftlaw42_SpanRoads.l4 : Nat → List (S36) → List (S31) → List Int → Int → Int → Int → Int → Option (Bool)
  | 0, _, _, _, _, _, _, _ => none
  | k + 1, x0, x3, x4, x6, x12, x13, x14 => if x14 < (x0.length : Int) then (if 0 ≤ x14 then (if x14 < (x4.length : Int) then (if (rd x4 x14) = x13 then (croftlaw42_SpanRoads.l4 k x0 x3 (x4.set (x14 : Int).toNat x12) x6 x12 x13 (wrap64 (x14 + 1))) else (croftlaw42_SpanRoads.l4 k x0 x3 x4 x6 x12 x13 (wrap64 (x14 + 1)))) else (none)) else (none)) else (croftlaw42_SpanRoads.l1 k x0 x3 x4 (wrap64 (x6 + 1)))
end
def croftlaw42_SpanRoads.f (k : Nat) (l0 : List (S36)) : Option (Bool) := (croftlaw42_alive.f k).bind fun t190 => (if t190 = true then (if (l0.length : Int) > 14 then (if 14 ≤ (l0.length : Int) then (croftlaw42_SpanRoads.j0 k (l0.take 14)) else (none)) else (croftlaw42_SpanRoads.j0 k l0)) else (some false))
theorem croftlaw42_SpanRoads.mono_l : ∀ k, (∀ y0, LeO (croftlaw42_SpanRoads.j0 k y0) (croftlaw42_SpanRoads.j0 (k + 1) y0)) ∧ (∀ y0 y1 y2 y3, LeO (croftlaw42_SpanRoads.l0 k y0 y1 y2 y3) (croftlaw42_SpanRoads.l0 (k + 1) y0 y1 y2 y3)) ∧ (∀ y0 y1 y2 y3, LeO (croftlaw42_SpanRoads.l1 k y0 y1 y2 y3) (croftlaw42_SpanRoads.l1 (k + 1) y0 y1 y2 y3)) ∧ (∀ y0 y1 y2 y3 y4 y5 y6 y7 y8, LeO (croftlaw42_SpanRoads.l2 k y0 y1 y2 y3 y4 y5 y6 y7 y8) (croftlaw42_SpanRoads.l2 (k + 1) y0 y1 y2 y3 y4 y5 y6 y7 y8)) ∧ (∀ y0 y1 y2 y3 y4 y5 y6 y7 y8 y9, LeO (croftlaw42_SpanRoads.l3 k y0 y1 y2 y3 y4 y5 y6 y7 y8 y9) (croftlaw42_SpanRoads.l3 (k + 1) y0 y1 y2 y3 y4 y5 y6 y7 y8 y9)) ∧ (∀ y0 y1 y2 y3 y4 y5 y6, LeO (croftlaw42_SpanRoads.l4 k y0 y1 y2 y3 y4 y5 y6) (croftlaw42_SpanRoads.l4 (k + 1) y0 y1 y2 y3 y4 y5 y6))
  | 0 => ⟨fun _ r h => by simp [croftlaw42_SpanRoads.j0] at h, fun _ _ _ _ r h => by simp [croftlaw42_SpanRoads.l0] at h, fun _ _ _ _ r h => by simp [croftlaw42_SpanRoads.l1] at h, fun _ _ _ _ _ _ _ _ _ r h => by simp [croftlaw42_SpanRoads.l2] at h, fun _ _ _ _ _ _ _ _ _ _ r h => by simp [croftlaw42_SpanRoads.l3] at h, fun _ _ _ _ _ _ _ r h => by simp [croftlaw42_SpanRoads.l4] at h⟩
  | k + 1 => by
    obtain ⟨ih0, ih1, ih2, ih3, ih4, ih5⟩ := croftlaw42_SpanRoads.mono_l k
    refine ⟨?_, ?_, ?_, ?_, ?_, ?_⟩
    · intro y0
      unfold croftlaw42_SpanRoads.j0
      repeat' first
      | (with_reducible exact ih0 _)
      | (with_reducible exact ih1 _ _ _ _)
      | (with_reducible exact ih2 _ _ _ _)
      | (with_reducible exact ih3 _ _ _ _ _ _ _ _ _)
      | (with_reducible exact ih4 _ _ _ _ _ _ _ _ _ _)
      | (with_reducible exact ih5 _ _ _ _ _ _ _)
      | (with_reducible exact croftlaw42_alive.mono _)
      | (with_reducible exact span_Roads.mono _ _)
      | (with_reducible exact LeO.refl _)
      | (with_reducible exact LeO.none _)
      | (with_reducible refine LeO.ite ?_ ?_)
      | (with_reducible refine LeO.bind ?_ (fun _ => ?_))
      | exact ih0 _
      | exact ih1 _ _ _ _
      | exact ih2 _ _ _ _
      | exact ih3 _ _ _ _ _ _ _ _ _
      | exact ih4 _ _ _ _ _ _ _ _ _ _
      | exact ih5 _ _ _ _ _ _ _
      | exact croftlaw42_alive.mono _
      | exact span_Roads.mono _ _
      | exact LeO.none _
      | refine LeO.ite ?_ ?_
      | refine LeO.bind ?_ (fun _ => ?_)
    · intro y0 y1 y2 y3
      unfold croftlaw42_SpanRoads.l0
      repeat' first
      | (with_reducible exact ih0 _)
      | (with_reducible exact ih1 _ _ _ _)
      | (with_reducible exact ih2 _ _ _ _)
      | (with_reducible exact ih3 _ _ _ _ _ _ _ _ _)
      | (with_reducible exact ih4 _ _ _ _ _ _ _ _ _ _)
      | (with_reducible exact ih5 _ _ _ _ _ _ _)
      | (with_reducible exact croftlaw42_alive.mono _)
      | (with_reducible exact span_Roads.mono _ _)
      | (with_reducible exact LeO.refl _)
      | (with_reducible exact LeO.none _)
      | (with_reducible refine LeO.ite ?_ ?_)
      | (with_reducible refine LeO.bind ?_ (fun _ => ?_))
      | exact ih0 _
      | exact ih1 _ _ _ _
      | exact ih2 _ _ _ _
      | exact ih3 _ _ _ _ _ _ _ _ _
      | exact ih4 _ _ _ _ _ _ _ _ _ _
      | exact ih5 _ _ _ _ _ _ _
      | exact croftlaw42_alive.mono _
      | exact span_Roads.mono _ _
      | exact LeO.none _
      | refine LeO.ite ?_ ?_
      | refine LeO.bind ?_ (fun _ => ?_)
    · intro y0 y1 y2 y3
      unfold croftlaw42_SpanRoads.l1
      repeat' first
      | (with_reducible exact ih0 _)
      | (with_reducible exact ih1 _ _ _ _)
      | (with_reducible exact ih2 _ _ _ _)
      | (with_reducible exact ih3 _ _ _ _ _ _ _ _ _)
      | (with_reducible exact ih4 _ _ _ _ _ _ _ _ _ _)
      | (with_reducible exact ih5 _ _ _ _ _ _ _)
      | (with_reducible exact croftlaw42_alive.mono _)
      | (with_reducible exact span_Roads.mono _ _)
      | (with_reducible exact LeO.refl _)
      | (with_reducible exact LeO.none _)
      | (with_reducible refine LeO.ite ?_ ?_)
      | (with_reducible refine LeO.bind ?_ (fun _ => ?_))
      | exact ih0 _
      | exact ih1 _ _ _ _
      | exact ih2 _ _ _ _
      | exact ih3 _ _ _ _ _ _ _ _ _
      | exact ih4 _ _ _ _ _ _ _ _ _ _
      | exact ih5 _ _ _ _ _ _ _
      | exact croftlaw42_alive.mono _
      | exact span_Roads.mono _ _
      | exact LeO.none _
      | refine LeO.ite ?_ ?_
      | refine LeO.bind ?_ (fun _ => ?_)
    · intro y0 y1 y2 y3 y4 y5 y6 y7 y8
      unfold croftlaw42_SpanRoads.l2
      repeat' first
      | (with_reducible exact ih0 _)
      | (with_reducible exact ih1 _ _ _ _)
      | (with_reducible exact ih2 _ _ _ _)
      | (with_reducible exact ih3 _ _ _ _ _ _ _ _ _)
      | (with_reducible exact ih4 _ _ _ _ _ _ _ _ _ _)
      | (with_reducible exact ih5 _ _ _ _ _ _ _)
      | (with_reducible exact croftlaw42_alive.mono _)
      | (with_reducible exact span_Roads.mono _ _)
      | (with_reducible exact LeO.refl _)
      | (with_reducible exact LeO.none _)
      | (with_reducible refine LeO.ite ?_ ?_)
      | (with_reducible refine LeO.bind ?_ (fun _ => ?_))
      | exact ih0 _
      | exact ih1 _ _ _ _
      | exact ih2 _ _ _ _
      | exact ih3 _ _ _ _ _ _ _ _ _
      | exact ih4 _ _ _ _ _ _ _ _ _ _
      | exact ih5 _ _ _ _ _ _ _
      | exact croftlaw42_alive.mono _
      | exact span_Roads.mono _ _
      | exact LeO.none _
      | refine LeO.ite ?_ ?_
      | refine LeO.bind ?_ (fun _ => ?_)
    · intro y0 y1 y2 y3 y4 y5 y6 y7 y8 y9
      unfold croftlaw42_SpanRoads.l3
      repeat' first
      | (with_reducible exact ih0 _)
      | (with_reducible exact ih1 _ _ _ _)
      | (with_reducible exact ih2 _ _ _ _)
      | (with_reducible exact ih3 _ _ _ _ _ _ _ _ _)
      | (with_reducible exact ih4 _ _ _ _ _ _ _ _ _ _)
      | (with_reducible exact ih5 _ _ _ _ _ _ _)
      | (with_reducible exact croftlaw42_alive.mono _)
      | (with_reducible exact span_Roads.mono _ _)
      | (with_reducible exact LeO.refl _)
      | (with_reducible exact LeO.none _)
      | (with_reducible refine LeO.ite ?_ ?_)
      | (with_reducible refine LeO.bind ?_ (fun _ => ?_))
      | exact ih0 _
      | exact ih1 _ _ _ _
      | exact ih2 _ _ _ _
      | exact ih3 _ _ _ _ _ _ _ _ _
      | exact ih4 _ _ _ _ _ _ _ _ _ _
      | exact ih5 _ _ _ _ _ _ _
      | exact croftlaw42_alive.mono _
      | exact span_Roads.mono _ _
      | exact LeO.none _
      | refine LeO.ite ?_ ?_
      | refine LeO.bind ?_ (fun _ => ?_)
    · intro y0 y1 y2 y3 y4 y5 y6
      unfold croftlaw42_SpanRoads.l4
      repeat' first
      | (with_reducible exact ih0 _)
      | (with_reducible exact ih1 _ _ _ _)
      | (with_reducible exact ih2 _ _ _ _)
      | (with_reducible exact ih3 _ _ _ _ _ _ _ _ _)
      | (with_reducible exact ih4 _ _ _ _ _ _ _ _ _ _)
      | (with_reducible exact ih5 _ _ _ _ _ _ _)
      | (with_reducible exact croftlaw42_alive.mono _)
      | (with_reducible exact span_Roads.mono _ _)
      | (with_reducible exact LeO.refl _)
      | (with_reducible exact LeO.none _)
      | (with_reducible refine LeO.ite ?_ ?_)
      | (with_reducible refine LeO.bind ?_ (fun _ => ?_))
      | exact ih0 _
      | exact ih1 _ _ _ _
      | exact ih2 _ _ _ _
      | exact ih3 _ _ _ _ _ _ _ _ _
      | exact ih4 _ _ _ _ _ _ _ _ _ _
      | exact ih5 _ _ _ _ _ _ _
      | exact croftlaw42_alive.mono _
      | exact span_Roads.mono _ _
      | exact LeO.none _
      | refine LeO.ite ?_ ?_
      | refine LeO.bind ?_ (fun _ => ?_)
theorem croftlaw42_SpanRoads.mono : ∀ a0 k, LeO (croftlaw42_SpanRoads.f k a0) (croftlaw42_SpanRoads.f (k + 1) a0) := by
  intro a0 k
  obtain ⟨ih0, ih1, ih2, ih3, ih4, ih5⟩ := croftlaw42_SpanRoads.mono_l k
  unfold croftlaw42_SpanRoads.f
  repeat' first
      | (with_reducible exact ih0 _)
      | (with_reducible exact ih1 _ _ _ _)
      | (with_reducible exact ih2 _ _ _ _)
      | (with_reducible exact ih3 _ _ _ _ _ _ _ _ _)
      | (with_reducible exact ih4 _ _ _ _ _ _ _ _ _ _)
      | (with_reducible exact ih5 _ _ _ _ _ _ _)
      | (with_reducible exact croftlaw42_alive.mono _)
      | (with_reducible exact span_Roads.mono _ _)
      | (with_reducible exact LeO.refl _)
      | (with_reducible exact LeO.none _)
      | (with_reducible refine LeO.ite ?_ ?_)
      | (with_reducible refine LeO.bind ?_ (fun _ => ?_))
      | exact ih0 _
      | exact ih1 _ _ _ _
      | exact ih2 _ _ _ _
      | exact ih3 _ _ _ _ _ _ _ _ _
      | exact ih4 _ _ _ _ _ _ _ _ _ _
      | exact ih5 _ _ _ _ _ _ _
      | exact croftlaw42_alive.mono _
      | exact span_Roads.mono _ _
      | exact LeO.none _
      | refine LeO.ite ?_ ?_
      | refine LeO.bind ?_ (fun _ => ?_)
set_option maxHeartbeats 8000000 in
set_option maxRecDepth 100000 in
theorem croftlaw42_SpanRoads.calls (k : Nat) (P0_ : Nat → Prop) (A0 : Option Addr) (c0 : Nat) (l0 : List (S36)) (r : Bool) (w : World) (hs0 : Kd.V k36 36 w w.heap.size (fun k_ => P0_ k_) (.slice A0 l0.length c0) l0) (h : croftlaw42_SpanRoads.f k l0 = some r) :
    Calls Try.prog 3 #[.slice A0 l0.length c0] w fun e w' => e = .returned (.bool r) ∧ Below w.heap.size w w' := by
  have hu31 := Try.underlying31
  have hu29 := Try.underlying29
  have HO0 := Aside0.mk (show Kd.V k36 36 w w.heap.size (fun k_ => (P0_ k_ ∨ w.heap.size ≤ k_)) (.slice A0 l0.length c0) l0 from Kd.V_mono hs0 (fun k_ hk => .inl hk))
  have HB := Aside0.mk (Below.refl w.heap.size w)
  have H : ((croftlaw42_alive.f k).bind fun t190 => (if t190 = true then (if (l0.length : Int) > 14 then (if 14 ≤ (l0.length : Int) then (croftlaw42_SpanRoads.j0 k (l0.take 14)) else (none)) else (croftlaw42_SpanRoads.j0 k l0)) else (some false))) = some r := h
  clear h
  replace H := Option.bind_eq_some_iff.mp H
  obtain ⟨t190, A20, H⟩ := H
  replace H : (if t190 = true then (if (l0.length : Int) > 14 then (if 14 ≤ (l0.length : Int) then (croftlaw42_SpanRoads.j0 k (l0.take 14)) else (none)) else (croftlaw42_SpanRoads.j0 k l0)) else (some false)) = some r := H
  have A2 := Aside0.mk A20
  clear A20
  by_cases c3 : t190 = true
  · subst c3
    have H1 : (if (l0.length : Int) > 14 then (if 14 ≤ (l0.length : Int) then (croftlaw42_SpanRoads.j0 k (l0.take 14)) else (none)) else (croftlaw42_SpanRoads.j0 k l0)) = some r := by rw [if_pos rfl] at H; exact H
    clear H
    have H := H1
    clear H1
    have HC4 := Aside0.mk H
    clear H
    go_enter Try.func3, Try.ntmps3
    go_upto_if 19 with (first | (go_at_call 6; (with_reducible refine (croftlaw42_alive.calls k  true _ A2.out).mono ?_); rintro e w5 ⟨rfl, hb⟩; have n0_ := Aside0.mk (Kd.V_below (by (with_reducible repeat (first | apply Kd.V_alloc | apply Kd.V_drewN | apply Kd.V_drew)); exact HO0.out) hb); have n1_ := Aside0.mk (below_step (by repeat (first | (with_reducible first | exact HB.out | apply below_alloc | apply pw_below_drewN | apply below_drew1) | exact HB.out)) hb); clear HO0; clear HB; have HO0 := n0_; have HB := n1_; clear n0_ n1_; (try clear hb); (try clear hb2); (try clear hk); (try clear hi)))
    repeat (go_quiet (first | (go_at_call 6; (with_reducible refine (croftlaw42_alive.calls k  true _ A2.out).mono ?_); rintro e w5 ⟨rfl, hb⟩; have n0_ := Aside0.mk (Kd.V_below (by (with_reducible repeat (first | apply Kd.V_alloc | apply Kd.V_drewN | apply Kd.V_drew)); exact HO0.out) hb); have n1_ := Aside0.mk (below_step (by repeat (first | (with_reducible first | exact HB.out | apply below_alloc | apply pw_below_drewN | apply below_drew1) | exact HB.out)) hb); clear HO0; clear HB; have HO0 := n0_; have HB := n1_; clear n0_ n1_; (try clear hb); (try clear hb2); (try clear hk); (try clear hi))); go_upto_if 19 with (first | (go_at_call 6; (with_reducible refine (croftlaw42_alive.calls k  true _ A2.out).mono ?_); rintro e w5 ⟨rfl, hb⟩; have n0_ := Aside0.mk (Kd.V_below (by (with_reducible repeat (first | apply Kd.V_alloc | apply Kd.V_drewN | apply Kd.V_drew)); exact HO0.out) hb); have n1_ := Aside0.mk (below_step (by repeat (first | (with_reducible first | exact HB.out | apply below_alloc | apply pw_below_drewN | apply below_drew1) | exact HB.out)) hb); clear HO0; clear HB; have HO0 := n0_; have HB := n1_; clear n0_ n1_; (try clear hb); (try clear hb2); (try clear hk); (try clear hi))))
    (try simp only [Act.put, List.setIfInBounds_toArray, List.set_cons_zero, List.set_cons_succ])
    go_cut [0] (fun v0 wc => ∃ (kq : Nat) (x0_3 : List (S36)), Aside0 (croftlaw42_SpanRoads.j0 kq x0_3 = some r) ∧ Aside0 (kq ≤ k) ∧ Aside0 (Kd.V k36 36 wc w.heap.size (fun k_ => (P0_ k_ ∨ w.heap.size ≤ k_)) v0 x0_3) ∧ Aside0 (Below w.heap.size w wc))
    case first =>
      have H := HC4.out
      clear HC4
      by_cases c6 : (l0.length : Int) > 14
      · rw [if_pos c6] at H
        have c6b0 : decide (14 < (l0.length : Int)) = true := decide_eq_true c6
        have c6b1 : decide (14 < l0.length) = true := decide_eq_true (by omega)
        clear c6
        (first | rw [c6b0] | (simp only [i64_w, i32_w]; rw [c6b0]) | skip)
        by_cases c7 : 14 ≤ (l0.length : Int)
        · rw [if_pos c7] at H
          have c7b0 := eq_true c7
          have c7b1 : decide (14 ≤ (l0.length : Int)) = true := decide_eq_true c7
          clear c7
          obtain ⟨y191, hy191⟩ : ∃ y_ : List (S36), y_ = (l0.take 14) := ⟨_, rfl⟩
          replace H : (croftlaw42_SpanRoads.j0 k y191) = some r := by first | (rw [hy191]; with_reducible exact H) | (have H2_ := (Option.bind_some _ _).symm.trans H; rw [hy191]; with_reducible exact H2_) | (have H2_ := (Option.bind_some _ _).symm.trans H; with_reducible exact H2_) | with_reducible exact H | (rw [hy191]; exact H) | exact H
          have Ny191 := Aside0.mk hy191
          clear hy191
          have H' := Aside0.mk H
          clear H
          have q8 : (14 : Int) ≤ ((l0.length : Int) : Int) := of_decide_eq_true (by first | (with_reducible assumption) | assumption)
          obtain ⟨i08, hi08, _, hsz8, _⟩ := info_parts info36
          have hroom8 : l0.length ≤ c0 := (Kd.V_reads' HO0.out).2.1
          have hC8 : Kd.F k36 _ _ A0 l0.length l0 := (Kd.V_at (base := w.heap.size) HO0.out).2.2
          have hcut8 := cut_to (P := Try.prog) 22 36 .i64 Try.underlying22 hi08 A0 l0.length c0 14 (by omega) q8 hroom8
          have hr8 := Kd.F_take (m := 14) hC8 (by omega)
          have hy8 : y191.length = (14 : Int).toNat := (by rw [Ny191.out, List.length_take]; omega)
          rw [← Ny191.out] at hr8
          rw [← hy8] at hcut8
          have HO195 := Aside0.mk (show Kd.V k36 36 _ w.heap.size _ (.slice A0 y191.length c0) y191 from Kd.V_mk (by omega) hr8)
          have HC195 := Aside0.mk (show y191.length ≤ c0 from by omega)
          clear hr8 hC8 hroom8 hi08 hsz8
          have KY8 := Aside0.mk hy8
          clear hy8
          replace q8 := eq_true q8
          go_wp2
          repeat (go_quiet (fail); try go_wp2)
          go_meet
          case rel => exact ⟨_, (y191), H', ⟨by first | omega | exact Nat.le_refl _⟩, ⟨by (with_reducible repeat (first | apply Kd.V_alloc | apply Kd.V_drewN | apply Kd.V_drew)); exact HO195.out⟩, ⟨by repeat (first | (with_reducible first | exact HB.out | apply below_alloc | apply pw_below_drewN | apply below_drew1) | exact HB.out)⟩⟩
        · rw [if_neg c7] at H
          exact absurd H (by simp)
      · rw [if_neg c6] at H
        have c6b0 : decide (14 < (l0.length : Int)) = false := decide_eq_false c6
        have c6b1 : decide (14 < l0.length) = false := decide_eq_false (by omega)
        clear c6
        (first | rw [c6b0] | (simp only [i64_w, i32_w]; rw [c6b0]) | skip)
        have H' := Aside0.mk H
        clear H
        go_wp2
        repeat (go_quiet (fail); try go_wp2)
        go_meet
        case rel => exact ⟨_, (l0), H', ⟨by first | omega | exact Nat.le_refl _⟩, ⟨by (with_reducible repeat (first | apply Kd.V_alloc | apply Kd.V_drewN | apply Kd.V_drew)); exact HO0.out⟩, ⟨by repeat (first | (with_reducible first | exact HB.out | apply below_alloc | apply pw_below_drewN | apply below_drew1) | exact HB.out)⟩⟩
    case rest =>
      clear HC4
      try clear p2
      try clear c3
      try clear c6
      try clear c6b0
      try clear c6b1
      try clear c7
      try clear c7b0
      try clear c7b1
      try clear q8
      try clear q8
      obtain ⟨kq, x0_3, HA, HJ3, HO_0, HB⟩ := hcut
      cases kq with
      | zero => exact absurd HA.out (by simp [croftlaw42_SpanRoads.j0])
      | succ kj3 =>
        have H := HA.out
        clear HA
        simp only [croftlaw42_SpanRoads.j0] at H
        replace H := Option.bind_eq_some_iff.mp H
        obtain ⟨t196, A90, H⟩ := H
        replace H : (if 0 ≤ (x0_3.length : Int) then (if ((x0_3.length : Int) : Int).toNat ≤ 35184372088832 then (croftlaw42_SpanRoads.l0 kj3 x0_3 t196 (List.replicate ((x0_3.length : Int) : Int).toNat 0) 0) else (none)) else (none)) = some r := H
        have A9 := Aside0.mk A90
        clear A90
        by_cases c10 : 0 ≤ (x0_3.length : Int)
        · rw [if_pos c10] at H
          have c10b0 := eq_true c10
          have c10b1 : decide (0 ≤ (x0_3.length : Int)) = true := decide_eq_true c10
          clear c10
          by_cases c11 : ((x0_3.length : Int) : Int).toNat ≤ 35184372088832
          · rw [if_pos c11] at H
            have c11b0 := eq_true c11
            have c11b1 : decide (((x0_3.length : Int) : Int).toNat ≤ 35184372088832) = true := decide_eq_true c11
            clear c11
            obtain ⟨y199, hy199⟩ : ∃ y_ : List Int, y_ = (List.replicate ((x0_3.length : Int) : Int).toNat 0) := ⟨_, rfl⟩
            replace H : (croftlaw42_SpanRoads.l0 kj3 x0_3 t196 y199 0) = some r := by first | (rw [hy199]; with_reducible exact H) | (have H2_ := (Option.bind_some _ _).symm.trans H; rw [hy199]; with_reducible exact H2_) | (have H2_ := (Option.bind_some _ _).symm.trans H; with_reducible exact H2_) | with_reducible exact H | (rw [hy199]; exact H) | exact H
            have Ny199 := Aside0.mk hy199
            clear hy199
            have H' := Aside0.mk H
            clear H
            obtain ⟨Ao12, co12, eo12⟩ := Kd.V_slice HO_0.out
            subst eo12
            go_wp2_with (first | (go_at_call 7; (with_reducible refine (span_Roads.calls kj3 _ _ x0_3 t196 _ ?side1 ?side2 A9.out).mono ?_); (case side1 => repeat (first | exact (Kd.V_reads' HO_0.out).2.2 | (with_reducible refine Kd.C_alloc ?_ _) | (with_reducible refine Kd.C_drewN ?_ _) | (with_reducible refine Kd.C_drew ?_))); (case side2 => exact (Kd.V_reads' HO_0.out).2.1); rintro e w13 ⟨v197, rfl, ho0, hb⟩; have n0_ := Aside0.mk (Kd.V_elder' (by (with_reducible repeat (first | apply Kd.V_alloc | apply Kd.V_drewN | apply Kd.V_drew)); exact HO_0.out) (Kd.R_base ho0) hb); have n1_ := Aside0.mk (Kd.R_lower (Kd.R_newM (M := fun k_ => (w.heap.size ≤ k_)) ho0 (below_size (by repeat (first | (with_reducible first | exact HB.out | apply below_alloc | apply pw_below_drewN | apply below_drew1) | exact HB.out))) (fun k_ h_ => h_)) (below_size (by repeat (first | (with_reducible first | exact HB.out | apply below_alloc | apply pw_below_drewN | apply below_drew1) | exact HB.out)))); have n2_ := Aside0.mk (below_step (by repeat (first | (with_reducible first | exact HB.out | apply below_alloc | apply pw_below_drewN | apply below_drew1) | exact HB.out)) hb); clear HO_0; clear HB; have HO_0 := n0_; have HO198 := n1_; have HB := n2_; clear n0_ n1_ n2_; (try clear hb); (try clear hb2); (try clear hk); (try clear hi); (try clear ho0)) | ((with_reducible refine gate_dst (N := 26) rfl ?_); refine Kd.R_make (Kd.int .i64) _ 3 rfl (N := 26) rfl 26 _ _ rfl (x0_3.length : Int) rfl rfl Try.underlying26 (.int .i64 0) 8 info3 rfl (by decide) (by omega) 0 (ok := fun _ => True) (okp := fun _ => True) rfl (fun _ hk => hk) trivial (of_decide_eq_true (by first | (with_reducible assumption) | assumption)) (Nat.le_trans (Nat.mul_le_mul_right _ (of_decide_eq_true (by first | (with_reducible assumption) | assumption) : (x0_3.length : Int).toNat ≤ 35184372088832)) (by omega)) (Below.refl _ _) (Nat.le_refl _) ?_; intro v200 w14 ho15 hb hg_ hnew_; clear hg_ hnew_; (first | rw [← Ny199.out] at ho15 | (simp only [Int.reduceToNat] at ho15; rw [← Ny199.out] at ho15)); have n0_ := Aside0.mk (Kd.V_elder' (by (with_reducible repeat (first | apply Kd.V_alloc | apply Kd.V_drewN | apply Kd.V_drew)); exact HO_0.out) (Kd.R_base ho15) hb); have n1_ := Aside0.mk (Kd.R_below (by (with_reducible repeat (first | apply Kd.R_alloc | apply Kd.R_drewN | apply Kd.R_drew)); exact HO198.out) hb); have n2_ := Aside0.mk (Kd.R_lower (Kd.R_newM (M := fun k_ => (w.heap.size ≤ k_)) ho15 (below_size (by repeat (first | (with_reducible first | exact HB.out | apply below_alloc | apply pw_below_drewN | apply below_drew1) | exact HB.out))) (fun k_ h_ => h_)) (below_size (by repeat (first | (with_reducible first | exact HB.out | apply below_alloc | apply pw_below_drewN | apply below_drew1) | exact HB.out)))); have n3_ := Aside0.mk (below_step (by repeat (first | (with_reducible first | exact HB.out | apply below_alloc | apply pw_below_drewN | apply below_drew1) | exact HB.out)) hb); clear HO_0; clear HO198; clear HB; have HO_0 := n0_; have HO198 := n1_; have HO201 := n2_; have HB := n3_; clear n0_ n1_ n2_ n3_; clear hb ho15))
            repeat (go_quiet (first | (go_at_call 7; (with_reducible refine (span_Roads.calls kj3 _ _ x0_3 t196 _ ?side1 ?side2 A9.out).mono ?_); (case side1 => repeat (first | exact (Kd.V_reads' HO_0.out).2.2 | (with_reducible refine Kd.C_alloc ?_ _) | (with_reducible refine Kd.C_drewN ?_ _) | (with_reducible refine Kd.C_drew ?_))); (case side2 => exact (Kd.V_reads' HO_0.out).2.1); rintro e w13 ⟨v197, rfl, ho0, hb⟩; have n0_ := Aside0.mk (Kd.V_elder' (by (with_reducible repeat (first | apply Kd.V_alloc | apply Kd.V_drewN | apply Kd.V_drew)); exact HO_0.out) (Kd.R_base ho0) hb); have n1_ := Aside0.mk (Kd.R_lower (Kd.R_newM (M := fun k_ => (w.heap.size ≤ k_)) ho0 (below_size (by repeat (first | (with_reducible first | exact HB.out | apply below_alloc | apply pw_below_drewN | apply below_drew1) | exact HB.out))) (fun k_ h_ => h_)) (below_size (by repeat (first | (with_reducible first | exact HB.out | apply below_alloc | apply pw_below_drewN | apply below_drew1) | exact HB.out)))); have n2_ := Aside0.mk (below_step (by repeat (first | (with_reducible first | exact HB.out | apply below_alloc | apply pw_below_drewN | apply below_drew1) | exact HB.out)) hb); clear HO_0; clear HB; have HO_0 := n0_; have HO198 := n1_; have HB := n2_; clear n0_ n1_ n2_; (try clear hb); (try clear hb2); (try clear hk); (try clear hi); (try clear ho0)) | ((with_reducible refine gate_dst (N := 26) rfl ?_); refine Kd.R_make (Kd.int .i64) _ 3 rfl (N := 26) rfl 26 _ _ rfl (x0_3.length : Int) rfl rfl Try.underlying26 (.int .i64 0) 8 info3 rfl (by decide) (by omega) 0 (ok := fun _ => True) (okp := fun _ => True) rfl (fun _ hk => hk) trivial (of_decide_eq_true (by first | (with_reducible assumption) | assumption)) (Nat.le_trans (Nat.mul_le_mul_right _ (of_decide_eq_true (by first | (with_reducible assumption) | assumption) : (x0_3.length : Int).toNat ≤ 35184372088832)) (by omega)) (Below.refl _ _) (Nat.le_refl _) ?_; intro v200 w14 ho15 hb hg_ hnew_; clear hg_ hnew_; (first | rw [← Ny199.out] at ho15 | (simp only [Int.reduceToNat] at ho15; rw [← Ny199.out] at ho15)); have n0_ := Aside0.mk (Kd.V_elder' (by (with_reducible repeat (first | apply Kd.V_alloc | apply Kd.V_drewN | apply Kd.V_drew)); exact HO_0.out) (Kd.R_base ho15) hb); have n1_ := Aside0.mk (Kd.R_below (by (with_reducible repeat (first | apply Kd.R_alloc | apply Kd.R_drewN | apply Kd.R_drew)); exact HO198.out) hb); have n2_ := Aside0.mk (Kd.R_lower (Kd.R_newM (M := fun k_ => (w.heap.size ≤ k_)) ho15 (below_size (by repeat (first | (with_reducible first | exact HB.out | apply below_alloc | apply pw_below_drewN | apply below_drew1) | exact HB.out))) (fun k_ h_ => h_)) (below_size (by repeat (first | (with_reducible first | exact HB.out | apply below_alloc | apply pw_below_drewN | apply below_drew1) | exact HB.out)))); have n3_ := Aside0.mk (below_step (by repeat (first | (with_reducible first | exact HB.out | apply below_alloc | apply pw_below_drewN | apply below_drew1) | exact HB.out)) hb); clear HO_0; clear HO198; clear HB; have HO_0 := n0_; have HO198 := n1_; have HO201 := n2_; have HB := n3_; clear n0_ n1_ n2_ n3_; clear hb ho15)); try go_wp2_with (first | (go_at_call 7; (with_reducible refine (span_Roads.calls kj3 _ _ x0_3 t196 _ ?side1 ?side2 A9.out).mono ?_); (case side1 => repeat (first | exact (Kd.V_reads' HO_0.out).2.2 | (with_reducible refine Kd.C_alloc ?_ _) | (with_reducible refine Kd.C_drewN ?_ _) | (with_reducible refine Kd.C_drew ?_))); (case side2 => exact (Kd.V_reads' HO_0.out).2.1); rintro e w13 ⟨v197, rfl, ho0, hb⟩; have n0_ := Aside0.mk (Kd.V_elder' (by (with_reducible repeat (first | apply Kd.V_alloc | apply Kd.V_drewN | apply Kd.V_drew)); exact HO_0.out) (Kd.R_base ho0) hb); have n1_ := Aside0.mk (Kd.R_lower (Kd.R_newM (M := fun k_ => (w.heap.size ≤ k_)) ho0 (below_size (by repeat (first | (with_reducible first | exact HB.out | apply below_alloc | apply pw_below_drewN | apply below_drew1) | exact HB.out))) (fun k_ h_ => h_)) (below_size (by repeat (first | (with_reducible first | exact HB.out | apply below_alloc | apply pw_below_drewN | apply below_drew1) | exact HB.out)))); have n2_ := Aside0.mk (below_step (by repeat (first | (with_reducible first | exact HB.out | apply below_alloc | apply pw_below_drewN | apply below_drew1) | exact HB.out)) hb); clear HO_0; clear HB; have HO_0 := n0_; have HO198 := n1_; have HB := n2_; clear n0_ n1_ n2_; (try clear hb); (try clear hb2); (try clear hk); (try clear hi); (try clear ho0)) | ((with_reducible refine gate_dst (N := 26) rfl ?_); refine Kd.R_make (Kd.int .i64) _ 3 rfl (N := 26) rfl 26 _ _ rfl (x0_3.length : Int) rfl rfl Try.underlying26 (.int .i64 0) 8 info3 rfl (by decide) (by omega) 0 (ok := fun _ => True) (okp := fun _ => True) rfl (fun _ hk => hk) trivial (of_decide_eq_true (by first | (with_reducible assumption) | assumption)) (Nat.le_trans (Nat.mul_le_mul_right _ (of_decide_eq_true (by first | (with_reducible assumption) | assumption) : (x0_3.length : Int).toNat ≤ 35184372088832)) (by omega)) (Below.refl _ _) (Nat.le_refl _) ?_; intro v200 w14 ho15 hb hg_ hnew_; clear hg_ hnew_; (first | rw [← Ny199.out] at ho15 | (simp only [Int.reduceToNat] at ho15; rw [← Ny199.out] at ho15)); have n0_ := Aside0.mk (Kd.V_elder' (by (with_reducible repeat (first | apply Kd.V_alloc | apply Kd.V_drewN | apply Kd.V_drew)); exact HO_0.out) (Kd.R_base ho15) hb); have n1_ := Aside0.mk (Kd.R_below (by (with_reducible repeat (first | apply Kd.R_alloc | apply Kd.R_drewN | apply Kd.R_drew)); exact HO198.out) hb); have n2_ := Aside0.mk (Kd.R_lower (Kd.R_newM (M := fun k_ => (w.heap.size ≤ k_)) ho15 (below_size (by repeat (first | (with_reducible first | exact HB.out | apply below_alloc | apply pw_below_drewN | apply below_drew1) | exact HB.out))) (fun k_ h_ => h_)) (below_size (by repeat (first | (with_reducible first | exact HB.out | apply below_alloc | apply pw_below_drewN | apply below_drew1) | exact HB.out)))); have n3_ := Aside0.mk (below_step (by repeat (first | (with_reducible first | exact HB.out | apply below_alloc | apply pw_below_drewN | apply below_drew1) | exact HB.out)) hb); clear HO_0; clear HO198; clear HB; have HO_0 := n0_; have HO198 := n1_; have HO201 := n2_; have HB := n3_; clear n0_ n1_ n2_ n3_; clear hb ho15)))
            go_loopg [5] kj3 (fun kq v5 w' => ∃ (x4_2 : List Int) (x5_2 : Int), v5 = .int .i64 x5_2 ∧ Aside0 (croftlaw42_SpanRoads.l0 kq x0_3 t196 x4_2 x5_2 = some r) ∧ Aside0 (kq ≤ kj3) ∧ Aside0 (Kd.V k36 36 w' w.heap.size (fun k_ => (P0_ k_ ∨ w.heap.size ≤ k_) ∧ some k_ ≠ (v197 : Value).ownBlock ∧ some k_ ≠ (v200 : Value).ownBlock) (.slice Ao12 x0_3.length co12) x0_3) ∧ Aside0 (Kd.R k31 31 w' w.heap.size (fun k_ => (w.heap.size ≤ k_)) v197 t196) ∧ Aside0 (Kd.R (Kd.int .i64) 3 w' w.heap.size (fun k_ => (w.heap.size ≤ k_)) v200 x4_2) ∧ Aside0 (Below w.heap.size w w'))
            case atStart => exact ⟨(y199), (0), (by first | rfl | (simp; done) | (simp [*]; done)), H', ⟨Nat.le_refl _⟩, ⟨by (with_reducible repeat (first | apply Kd.V_alloc | apply Kd.V_drewN | apply Kd.V_drew)); exact Kd.V_mono HO_0.out (fun _ hk => ⟨hk.1.1, ⟨hk.1.2, hk.2⟩⟩)⟩, ⟨by (with_reducible repeat (first | apply Kd.R_alloc | apply Kd.R_drewN | apply Kd.R_drew)); exact Kd.R_mono HO198.out (fun _ hk => hk.1)⟩, ⟨by (with_reducible repeat (first | apply Kd.R_alloc | apply Kd.R_drewN | apply Kd.R_drew)); exact Kd.R_mono HO201.out (fun _ hk => hk.1)⟩, ⟨by repeat (first | (with_reducible first | exact HB.out | apply below_alloc | apply pw_below_drewN | apply below_drew1) | exact HB.out)⟩⟩
            case round =>
              clear H'
              try clear c1
              try clear p2
              try clear c3
              try clear c6
              try clear c6b0
              try clear c6b1
              try clear c7
              try clear c7b0
              try clear c7b1
              try clear q8
              try clear c10
              try clear c10b0
              try clear c10b1
              try clear c11
              try clear c11b0
              try clear c11b1
              try clear p2
              try clear q8
              obtain ⟨x4_2, x5_2, rfl, HA, HK2, HO_0, HO_3, HO_4, HB⟩ := hrel
              cases gk with
              | zero => exact absurd HA.out (by simp [croftlaw42_SpanRoads.l0])
              | succ k2 =>
                have H := HA.out
                clear HA
                simp only [croftlaw42_SpanRoads.l0] at H
                by_cases c16 : x5_2 < (x0_3.length : Int)
                · rw [if_pos c16] at H
                  have c16b0 : decide (x5_2 < (x0_3.length : Int)) = true := decide_eq_true c16
                  clear c16
                  by_cases c17 : 0 ≤ x5_2
                  · rw [if_pos c17] at H
                    have c17b0 : decide (0 ≤ x5_2) = true := decide_eq_true c17
                    clear c17
                    by_cases c18 : x5_2 < (x4_2.length : Int)
                    · rw [if_pos c18] at H
                      have c18b0 : decide (x5_2 < (x4_2.length : Int)) = true := decide_eq_true c18
                      clear c18
                      obtain ⟨y202, hy202⟩ : ∃ y_ : List Int, y_ = (x4_2.set (x5_2 : Int).toNat x5_2) := ⟨_, rfl⟩
                      replace H : (croftlaw42_SpanRoads.l0 k2 x0_3 t196 y202 (wrap64 (x5_2 + 1))) = some r := by first | (rw [hy202]; with_reducible exact H) | (have H2_ := (Option.bind_some _ _).symm.trans H; rw [hy202]; with_reducible exact H2_) | (have H2_ := (Option.bind_some _ _).symm.trans H; with_reducible exact H2_) | with_reducible exact H | (rw [hy202]; exact H) | exact H
                      have Ny202 := Aside0.mk hy202
                      clear hy202
                      have H' := Aside0.mk H
                      clear H
                      have p19 : 0 ≤ (x5_2 : Int) := of_decide_eq_true (by first | (with_reducible assumption) | assumption)
                      have q19 : (x5_2 : Int) < ((x4_2.length : Int) : Int) := of_decide_eq_true (by first | (with_reducible assumption) | assumption)
                      obtain ⟨go19, co19, eo19, gb19, gl19, cl19, HG19⟩ := Kd.R_form HO_4.out (by omega)
                      (first | cases eo19 | (injection eo19 with ea_ en_ ec_; (first | subst ea_ | (injection ea_ with ea_; subst ea_)); subst ec_; clear en_))
                      have GB19 := Aside0.mk gb19
                      have GG19 := Aside0.mk HG19
                      clear gb19 gl19 HG19
                      obtain ⟨hx19_0, hf19_0⟩ := Kd.R_celln 0 HO_4.out (x5_2 : Int) p19 q19
                      replace p19 := eq_true p19
                      replace q19 := eq_true q19
                      have HP20 := Kd.R_putg HO_4.out (x5_2 : Int) x5_2
                      go_wp2_with (first | ((with_reducible refine gate_store (t := 3) (p := 36) rfl ?_); (try (rw [drewN_self wr]; generalize hq_ : World.drewN wr _ = wr; have n0_ := Aside0.mk (Kd.V_at hq_ HO_0.out); have n1_ := Aside0.mk (Kd.R_at hq_ HO_3.out); have n2_ := Aside0.mk (Kd.R_at hq_ HO_4.out); have n3_ := Aside0.mk (below_at hq_ HB.out); clear hq_ HO_0 HO_3 HO_4 HB; have HO_0 := n0_; have HO_3 := n1_; have HO_4 := n2_; have HB := n3_; clear n0_ n1_ n2_ n3_; (try (have HP20 := Kd.R_putg HO_4.out (x5_2 : Int) x5_2)))); refine store_event (t := 3) (p := 36) (v := ?vo_w21) (w1 := (wr.setCell ⟨go19, (x5_2 : Int).toNat, none⟩ (.int .i64 x5_2))) ?hg ?ho ?hn ?hr ?_; (case ho => rfl); (case hg => rfl); (case hn => rfl); (case hr => first | (go_simp; done) | (go_simp; rfl)); intro w21 hw; have hg : wr.grownBy w21 (some go19) := (by rw [hw]; exact HP20.2); have hp_ : Kd.R (Kd.int .i64) 3 w21 w.heap.size (fun k_ => (w.heap.size ≤ k_)) (.slice (some ⟨go19, 0, none⟩) x4_2.length co19) y202 := (by rw [hw, Ny202.out]; exact HP20.1); clear HP20; have n0_ := Aside0.mk (Kd.V_afterv (v := (.slice (some ⟨go19, 0, none⟩) x4_2.length co19)) (v1 := (.slice (some ⟨go19, 0, none⟩) x4_2.length co19)) (ok := (fun k_ => (P0_ k_ ∨ w.heap.size ≤ k_) ∧ some k_ ≠ (v197 : Value).ownBlock)) (by (with_reducible repeat (first | apply Kd.V_alloc | apply Kd.V_drewN | apply Kd.V_drew)); exact Kd.V_mono HO_0.out (fun _ hk => ⟨⟨hk.1, hk.2.1⟩, hk.2.2⟩)) hg (.inl rfl)); have n1_ := Aside0.mk (Kd.R_over' (v := (.slice (some ⟨go19, 0, none⟩) x4_2.length co19)) (by (with_reducible repeat (first | apply Kd.R_alloc | apply Kd.R_drewN | apply Kd.R_drew)); exact HO_3.out) (Kd.R_typed HO_4.out) (by decide) hg); have n2_ := Aside0.mk (hp_); have n3_ := Aside0.mk ((by rw [hw]; exact below_set (HB.out) GB19.out : Below w.heap.size w w21)); clear HO_0; clear HO_3; clear HO_4; clear HB; have HO_0 := n0_; have HO_3 := n1_; have HO_4 := n2_; have HB := n3_; clear n0_ n1_ n2_ n3_; clear hg hw hp_))
                      repeat (go_quiet (first | ((with_reducible refine gate_store (t := 3) (p := 36) rfl ?_); (try (rw [drewN_self wr]; generalize hq_ : World.drewN wr _ = wr; have n0_ := Aside0.mk (Kd.V_at hq_ HO_0.out); have n1_ := Aside0.mk (Kd.R_at hq_ HO_3.out); have n2_ := Aside0.mk (Kd.R_at hq_ HO_4.out); have n3_ := Aside0.mk (below_at hq_ HB.out); clear hq_ HO_0 HO_3 HO_4 HB; have HO_0 := n0_; have HO_3 := n1_; have HO_4 := n2_; have HB := n3_; clear n0_ n1_ n2_ n3_; (try (have HP20 := Kd.R_putg HO_4.out (x5_2 : Int) x5_2)))); refine store_event (t := 3) (p := 36) (v := ?vo_w21) (w1 := (wr.setCell ⟨go19, (x5_2 : Int).toNat, none⟩ (.int .i64 x5_2))) ?hg ?ho ?hn ?hr ?_; (case ho => rfl); (case hg => rfl); (case hn => rfl); (case hr => first | (go_simp; done) | (go_simp; rfl)); intro w21 hw; have hg : wr.grownBy w21 (some go19) := (by rw [hw]; exact HP20.2); have hp_ : Kd.R (Kd.int .i64) 3 w21 w.heap.size (fun k_ => (w.heap.size ≤ k_)) (.slice (some ⟨go19, 0, none⟩) x4_2.length co19) y202 := (by rw [hw, Ny202.out]; exact HP20.1); clear HP20; have n0_ := Aside0.mk (Kd.V_afterv (v := (.slice (some ⟨go19, 0, none⟩) x4_2.length co19)) (v1 := (.slice (some ⟨go19, 0, none⟩) x4_2.length co19)) (ok := (fun k_ => (P0_ k_ ∨ w.heap.size ≤ k_) ∧ some k_ ≠ (v197 : Value).ownBlock)) (by (with_reducible repeat (first | apply Kd.V_alloc | apply Kd.V_drewN | apply Kd.V_drew)); exact Kd.V_mono HO_0.out (fun _ hk => ⟨⟨hk.1, hk.2.1⟩, hk.2.2⟩)) hg (.inl rfl)); have n1_ := Aside0.mk (Kd.R_over' (v := (.slice (some ⟨go19, 0, none⟩) x4_2.length co19)) (by (with_reducible repeat (first | apply Kd.R_alloc | apply Kd.R_drewN | apply Kd.R_drew)); exact HO_3.out) (Kd.R_typed HO_4.out) (by decide) hg); have n2_ := Aside0.mk (hp_); have n3_ := Aside0.mk ((by rw [hw]; exact below_set (HB.out) GB19.out : Below w.heap.size w w21)); clear HO_0; clear HO_3; clear HO_4; clear HB; have HO_0 := n0_; have HO_3 := n1_; have HO_4 := n2_; have HB := n3_; clear n0_ n1_ n2_ n3_; clear hg hw hp_)); try go_wp2_with (first | ((with_reducible refine gate_store (t := 3) (p := 36) rfl ?_); (try (rw [drewN_self wr]; generalize hq_ : World.drewN wr _ = wr; have n0_ := Aside0.mk (Kd.V_at hq_ HO_0.out); have n1_ := Aside0.mk (Kd.R_at hq_ HO_3.out); have n2_ := Aside0.mk (Kd.R_at hq_ HO_4.out); have n3_ := Aside0.mk (below_at hq_ HB.out); clear hq_ HO_0 HO_3 HO_4 HB; have HO_0 := n0_; have HO_3 := n1_; have HO_4 := n2_; have HB := n3_; clear n0_ n1_ n2_ n3_; (try (have HP20 := Kd.R_putg HO_4.out (x5_2 : Int) x5_2)))); refine store_event (t := 3) (p := 36) (v := ?vo_w21) (w1 := (wr.setCell ⟨go19, (x5_2 : Int).toNat, none⟩ (.int .i64 x5_2))) ?hg ?ho ?hn ?hr ?_; (case ho => rfl); (case hg => rfl); (case hn => rfl); (case hr => first | (go_simp; done) | (go_simp; rfl)); intro w21 hw; have hg : wr.grownBy w21 (some go19) := (by rw [hw]; exact HP20.2); have hp_ : Kd.R (Kd.int .i64) 3 w21 w.heap.size (fun k_ => (w.heap.size ≤ k_)) (.slice (some ⟨go19, 0, none⟩) x4_2.length co19) y202 := (by rw [hw, Ny202.out]; exact HP20.1); clear HP20; have n0_ := Aside0.mk (Kd.V_afterv (v := (.slice (some ⟨go19, 0, none⟩) x4_2.length co19)) (v1 := (.slice (some ⟨go19, 0, none⟩) x4_2.length co19)) (ok := (fun k_ => (P0_ k_ ∨ w.heap.size ≤ k_) ∧ some k_ ≠ (v197 : Value).ownBlock)) (by (with_reducible repeat (first | apply Kd.V_alloc | apply Kd.V_drewN | apply Kd.V_drew)); exact Kd.V_mono HO_0.out (fun _ hk => ⟨⟨hk.1, hk.2.1⟩, hk.2.2⟩)) hg (.inl rfl)); have n1_ := Aside0.mk (Kd.R_over' (v := (.slice (some ⟨go19, 0, none⟩) x4_2.length co19)) (by (with_reducible repeat (first | apply Kd.R_alloc | apply Kd.R_drewN | apply Kd.R_drew)); exact HO_3.out) (Kd.R_typed HO_4.out) (by decide) hg); have n2_ := Aside0.mk (hp_); have n3_ := Aside0.mk ((by rw [hw]; exact below_set (HB.out) GB19.out : Below w.heap.size w w21)); clear HO_0; clear HO_3; clear HO_4; clear HB; have HO_0 := n0_; have HO_3 := n1_; have HO_4 := n2_; have HB := n3_; clear n0_ n1_ n2_ n3_; clear hg hw hp_)))
                      go_roundg k2
                      case measure => have := HJ3.out; have := HK2.out; omega
                      case rel => exact ⟨(y202), (wrap64 (x5_2 + 1)), (by first | rfl | (simp; done) | (simp [*]; done)), H', ⟨by have := HJ3.out; have := HK2.out; omega⟩, ⟨by (with_reducible repeat (first | apply Kd.V_alloc | apply Kd.V_drewN | apply Kd.V_drew)); exact Kd.V_mono HO_0.out (fun _ hk => ⟨hk.1.1, ⟨hk.1.2, hk.2⟩⟩)⟩, ⟨by (with_reducible repeat (first | apply Kd.R_alloc | apply Kd.R_drewN | apply Kd.R_drew)); exact HO_3.out⟩, ⟨by (with_reducible repeat (first | apply Kd.R_alloc | apply Kd.R_drewN | apply Kd.R_drew)); exact HO_4.out⟩, ⟨by repeat (first | (with_reducible first | exact HB.out | apply below_alloc | apply pw_below_drewN | apply below_drew1) | exact HB.out)⟩⟩
                    · rw [if_neg c18] at H
                      exact absurd H (by simp)
                  · rw [if_neg c17] at H
                    exact absurd H (by simp)
                · rw [if_neg c16] at H
                  have c16b0 : decide (x5_2 < (x0_3.length : Int)) = false := decide_eq_false c16
                  clear c16
                  obtain ⟨ji22, hji22⟩ : ∃ j_ : Int, (mx (wrap64 ((x0_3.length : Int) - 1)) 0) = j_ := ⟨_, rfl⟩
                  replace H : (if (t196.length : Int) = (ji22) then (croftlaw42_SpanRoads.l1 k2 x0_3 t196 x4_2 0) else (some false)) = some r := by first | (rw [hji22] at H; exact H) | (simp only [hji22] at H ⊢; exact H)
                  have hji22_ : (if (wrap64 ((x0_3.length : Int) - 1)) < 0 then 0 else (wrap64 ((x0_3.length : Int) - 1))) = ji22 := hji22
                  by_cases c23 : (t196.length : Int) = (ji22)
                  · rw [if_pos c23] at H
                    have c23b0 : ((t196.length : Int) == (ji22)) = true := beq_iff_eq.mpr c23
                    have c23b1 : ((t196.length : Int) != (ji22)) = false := bne_eq_false_iff_eq.mpr c23
                    clear c23
                    have H' := Aside0.mk H
                    clear H
                    obtain ⟨Ao24, co24, eo24⟩ := Kd.R_slice HO_3.out
                    subst eo24
                    go_wp2
                    repeat (go_quiet (fail); try go_wp2)
                    go_loopg [6] k2 (fun kq v6 w' => ∃ (x4_3 : List Int) (x6_3 : Int), v6 = .int .i64 x6_3 ∧ Aside0 (croftlaw42_SpanRoads.l1 kq x0_3 t196 x4_3 x6_3 = some r) ∧ Aside0 (kq ≤ k2) ∧ Aside0 (Kd.V k36 36 w' w.heap.size (fun k_ => (P0_ k_ ∨ w.heap.size ≤ k_) ∧ some k_ ≠ ((.slice Ao24 t196.length co24) : Value).ownBlock ∧ some k_ ≠ (v200 : Value).ownBlock) (.slice Ao12 x0_3.length co12) x0_3) ∧ Aside0 (Kd.R k31 31 w' w.heap.size (fun k_ => (w.heap.size ≤ k_)) (.slice Ao24 t196.length co24) t196) ∧ Aside0 (Kd.R (Kd.int .i64) 3 w' w.heap.size (fun k_ => (w.heap.size ≤ k_)) v200 x4_3) ∧ Aside0 (Below w.heap.size w w'))
                    case atStart => exact ⟨(x4_2), (0), (by first | rfl | (simp; done) | (simp [*]; done)), H', ⟨Nat.le_refl _⟩, ⟨by (with_reducible repeat (first | apply Kd.V_alloc | apply Kd.V_drewN | apply Kd.V_drew)); exact HO_0.out⟩, ⟨by (with_reducible repeat (first | apply Kd.R_alloc | apply Kd.R_drewN | apply Kd.R_drew)); exact HO_3.out⟩, ⟨by (with_reducible repeat (first | apply Kd.R_alloc | apply Kd.R_drewN | apply Kd.R_drew)); exact HO_4.out⟩, ⟨by repeat (first | (with_reducible first | exact HB.out | apply below_alloc | apply pw_below_drewN | apply below_drew1) | exact HB.out)⟩⟩
                    case round =>
                      clear H'
                      try clear c1
                      try clear p1
                      try clear q1
                      try clear hx1
                      try clear hf1
                      try clear c2
                      try clear p2
                      try clear c3
                      try clear c6
                      try clear c6b0
                      try clear c6b1
                      try clear p6
                      try clear c7
                      try clear c7b0
                      try clear c7b1
                      try clear q8
                      try clear c10
                      try clear c10b0
                      try clear c10b1
                      try clear c11
                      try clear c11b0
                      try clear c11b1
                      try clear c16
                      try clear c16b0
                      try clear c17
                      try clear c17b0
                      try clear c18
                      try clear c18b0
                      try clear p19
                      try clear q19
                      try clear hx19
                      try clear hf19
                      try clear c23
                      try clear c23b0
                      try clear c23b1
                      try clear hx19_0
                      try clear p19
                      try clear p2
                      try clear q19
                      try clear q8
                      obtain ⟨x4_3, x6_3, rfl, HA, HK3, HO_0, HO_3, HO_4, HB⟩ := hrel
                      cases gk with
                      | zero => exact absurd HA.out (by simp [croftlaw42_SpanRoads.l1])
                      | succ k3 =>
                        have H := HA.out
                        clear HA
                        simp only [croftlaw42_SpanRoads.l1] at H
                        by_cases c25 : x6_3 < (t196.length : Int)
                        · rw [if_pos c25] at H
                          have c25b0 : decide (x6_3 < (t196.length : Int)) = true := decide_eq_true c25
                          clear c25
                          have H' := Aside0.mk H
                          clear H
                          go_wp2_with (first | ((with_reducible refine gate_dst (N := 7) rfl ?_); refine box_event ?hg (N := 7) ?hd (cs := #[.int .i64 0, .int .i64 0, .int .u64 0, .int .u64 0]) (t := 31) ?hr ?_; (case hd => rfl); (case hg => rfl); (case hr => first | (go_simp; done) | (go_simp; rfl)); intro gb203 hg w26 hbox hb; have n0_ := Aside0.mk (Kd.V_below (Kd.V_elderB (by (with_reducible repeat (first | apply Kd.V_alloc | apply Kd.V_drewN | apply Kd.V_drew)); exact HO_0.out) gb203 (Nat.le_of_eq hg.symm)) hb); have n1_ := Aside0.mk (Kd.R_below (Kd.R_elderB (by (with_reducible repeat (first | apply Kd.R_alloc | apply Kd.R_drewN | apply Kd.R_drew)); exact HO_3.out) gb203 (Nat.le_of_eq hg.symm)) hb); have n2_ := Aside0.mk (Kd.R_below (by (with_reducible repeat (first | apply Kd.R_alloc | apply Kd.R_drewN | apply Kd.R_drew)); exact HO_4.out) hb); have n3_ := Aside0.mk (below_step (by repeat (first | (with_reducible first | exact HB.out | apply below_alloc | apply pw_below_drewN | apply below_drew1) | exact HB.out)) hb); have n4_ := Aside0.mk (hbox); have n5_ := Aside0.mk ((by rw [hg]; exact (below_size (by repeat (first | (with_reducible first | exact HB.out | apply below_alloc | apply pw_below_drewN | apply below_drew1) | exact HB.out))) : w.heap.size ≤ gb203)); have n6_ := Aside0.mk ((by rw [hg]; exact (below_size (by repeat (first | (with_reducible first | exact HB.out | apply below_alloc | apply pw_below_drewN | apply below_drew1) | exact HB.out))) : w.heap.size ≤ gb203)); clear HO_0; clear HO_3; clear HO_4; clear HB; have HO_0 := n0_; have HO_3 := n1_; have HO_4 := n2_; have HB := n3_; have BK203 := n4_; have GW203 := n5_; have GE203 := n6_; clear n0_ n1_ n2_ n3_ n4_ n5_ n6_; clear hb hbox hg; have hcz27_0 : w26.cell? ⟨gb203, 0, none⟩ = some (.int .i64 0) := (blk_cell BK203.out 0).trans rfl; have hcz27_1 : w26.cell? ⟨gb203, 1, none⟩ = some (.int .i64 0) := (blk_cell BK203.out 1).trans rfl; have hcz27_2 : w26.cell? ⟨gb203, 2, none⟩ = some (.int .u64 0) := (blk_cell BK203.out 2).trans rfl; have hcz27_3 : w26.cell? ⟨gb203, 3, none⟩ = some (.int .u64 0) := (blk_cell BK203.out 3).trans rfl; have hfz27_0 := blk_frozen BK203.out 0; have hfz27_1 := blk_frozen BK203.out 1; have hfz27_2 := blk_frozen BK203.out 2; have hfz27_3 := blk_frozen BK203.out 3))
                          repeat (go_quiet (first | ((with_reducible refine gate_dst (N := 7) rfl ?_); refine box_event ?hg (N := 7) ?hd (cs := #[.int .i64 0, .int .i64 0, .int .u64 0, .int .u64 0]) (t := 31) ?hr ?_; (case hd => rfl); (case hg => rfl); (case hr => first | (go_simp; done) | (go_simp; rfl)); intro gb203 hg w26 hbox hb; have n0_ := Aside0.mk (Kd.V_below (Kd.V_elderB (by (with_reducible repeat (first | apply Kd.V_alloc | apply Kd.V_drewN | apply Kd.V_drew)); exact HO_0.out) gb203 (Nat.le_of_eq hg.symm)) hb); have n1_ := Aside0.mk (Kd.R_below (Kd.R_elderB (by (with_reducible repeat (first | apply Kd.R_alloc | apply Kd.R_drewN | apply Kd.R_drew)); exact HO_3.out) gb203 (Nat.le_of_eq hg.symm)) hb); have n2_ := Aside0.mk (Kd.R_below (by (with_reducible repeat (first | apply Kd.R_alloc | apply Kd.R_drewN | apply Kd.R_drew)); exact HO_4.out) hb); have n3_ := Aside0.mk (below_step (by repeat (first | (with_reducible first | exact HB.out | apply below_alloc | apply pw_below_drewN | apply below_drew1) | exact HB.out)) hb); have n4_ := Aside0.mk (hbox); have n5_ := Aside0.mk ((by rw [hg]; exact (below_size (by repeat (first | (with_reducible first | exact HB.out | apply below_alloc | apply pw_below_drewN | apply below_drew1) | exact HB.out))) : w.heap.size ≤ gb203)); have n6_ := Aside0.mk ((by rw [hg]; exact (below_size (by repeat (first | (with_reducible first | exact HB.out | apply below_alloc | apply pw_below_drewN | apply below_drew1) | exact HB.out))) : w.heap.size ≤ gb203)); clear HO_0; clear HO_3; clear HO_4; clear HB; have HO_0 := n0_; have HO_3 := n1_; have HO_4 := n2_; have HB := n3_; have BK203 := n4_; have GW203 := n5_; have GE203 := n6_; clear n0_ n1_ n2_ n3_ n4_ n5_ n6_; clear hb hbox hg; have hcz27_0 : w26.cell? ⟨gb203, 0, none⟩ = some (.int .i64 0) := (blk_cell BK203.out 0).trans rfl; have hcz27_1 : w26.cell? ⟨gb203, 1, none⟩ = some (.int .i64 0) := (blk_cell BK203.out 1).trans rfl; have hcz27_2 : w26.cell? ⟨gb203, 2, none⟩ = some (.int .u64 0) := (blk_cell BK203.out 2).trans rfl; have hcz27_3 : w26.cell? ⟨gb203, 3, none⟩ = some (.int .u64 0) := (blk_cell BK203.out 3).trans rfl; have hfz27_0 := blk_frozen BK203.out 0; have hfz27_1 := blk_frozen BK203.out 1; have hfz27_2 := blk_frozen BK203.out 2; have hfz27_3 := blk_frozen BK203.out 3)); try go_wp2_with (first | ((with_reducible refine gate_dst (N := 7) rfl ?_); refine box_event ?hg (N := 7) ?hd (cs := #[.int .i64 0, .int .i64 0, .int .u64 0, .int .u64 0]) (t := 31) ?hr ?_; (case hd => rfl); (case hg => rfl); (case hr => first | (go_simp; done) | (go_simp; rfl)); intro gb203 hg w26 hbox hb; have n0_ := Aside0.mk (Kd.V_below (Kd.V_elderB (by (with_reducible repeat (first | apply Kd.V_alloc | apply Kd.V_drewN | apply Kd.V_drew)); exact HO_0.out) gb203 (Nat.le_of_eq hg.symm)) hb); have n1_ := Aside0.mk (Kd.R_below (Kd.R_elderB (by (with_reducible repeat (first | apply Kd.R_alloc | apply Kd.R_drewN | apply Kd.R_drew)); exact HO_3.out) gb203 (Nat.le_of_eq hg.symm)) hb); have n2_ := Aside0.mk (Kd.R_below (by (with_reducible repeat (first | apply Kd.R_alloc | apply Kd.R_drewN | apply Kd.R_drew)); exact HO_4.out) hb); have n3_ := Aside0.mk (below_step (by repeat (first | (with_reducible first | exact HB.out | apply below_alloc | apply pw_below_drewN | apply below_drew1) | exact HB.out)) hb); have n4_ := Aside0.mk (hbox); have n5_ := Aside0.mk ((by rw [hg]; exact (below_size (by repeat (first | (with_reducible first | exact HB.out | apply below_alloc | apply pw_below_drewN | apply below_drew1) | exact HB.out))) : w.heap.size ≤ gb203)); have n6_ := Aside0.mk ((by rw [hg]; exact (below_size (by repeat (first | (with_reducible first | exact HB.out | apply below_alloc | apply pw_below_drewN | apply below_drew1) | exact HB.out))) : w.heap.size ≤ gb203)); clear HO_0; clear HO_3; clear HO_4; clear HB; have HO_0 := n0_; have HO_3 := n1_; have HO_4 := n2_; have HB := n3_; have BK203 := n4_; have GW203 := n5_; have GE203 := n6_; clear n0_ n1_ n2_ n3_ n4_ n5_ n6_; clear hb hbox hg; have hcz27_0 : w26.cell? ⟨gb203, 0, none⟩ = some (.int .i64 0) := (blk_cell BK203.out 0).trans rfl; have hcz27_1 : w26.cell? ⟨gb203, 1, none⟩ = some (.int .i64 0) := (blk_cell BK203.out 1).trans rfl; have hcz27_2 : w26.cell? ⟨gb203, 2, none⟩ = some (.int .u64 0) := (blk_cell BK203.out 2).trans rfl; have hcz27_3 : w26.cell? ⟨gb203, 3, none⟩ = some (.int .u64 0) := (blk_cell BK203.out 3).trans rfl; have hfz27_0 := blk_frozen BK203.out 0; have hfz27_1 := blk_frozen BK203.out 1; have hfz27_2 := blk_frozen BK203.out 2; have hfz27_3 := blk_frozen BK203.out 3)))
                          go_loopg [8] k3 (fun kq v8 w' => ∃ (x8_4 : Int) (x204000_4 : Int) (x204001_4 : Int) (x204002_4 : Int) (x204003_4 : Int), v8 = .int .i64 x8_4 ∧ Aside0 (croftlaw42_SpanRoads.l2 kq x0_3 t196 x4_3 x6_3 x8_4 x204000_4 x204001_4 x204002_4 x204003_4 = some r) ∧ Aside0 (kq ≤ k3) ∧ Aside0 (Kd.V k36 36 w' w.heap.size (fun k_ => (P0_ k_ ∨ w.heap.size ≤ k_) ∧ some k_ ≠ ((.slice Ao24 t196.length co24) : Value).ownBlock ∧ some k_ ≠ (v200 : Value).ownBlock ∧ k_ ≠ gb203) (.slice Ao12 x0_3.length co12) x0_3) ∧ Aside0 (Kd.R k31 31 w' w.heap.size (fun k_ => (w.heap.size ≤ k_) ∧ k_ ≠ gb203) (.slice Ao24 t196.length co24) t196) ∧ Aside0 (Kd.R (Kd.int .i64) 3 w' w.heap.size (fun k_ => (w.heap.size ≤ k_)) v200 x4_3) ∧ Aside0 (w'.heap[gb203]? = some (.cells #[.int .i64 x204000_4, .int .i64 x204001_4, .int .u64 x204002_4, .int .u64 x204003_4] 31 (0, 0))) ∧ Aside0 (Below w.heap.size w w'))
                          case atStart => exact ⟨(0), ((-1)), (0), (0), (0), (by first | rfl | (simp; done) | (simp [*]; done)), H', ⟨Nat.le_refl _⟩, ⟨by (with_reducible repeat (first | apply Kd.V_alloc | apply Kd.V_drewN | apply Kd.V_drew)); exact Kd.V_mono (Kd.V_far (p := ⟨gb203, 3, none⟩) (Kd.V_far (p := ⟨gb203, 2, none⟩) (Kd.V_far (p := ⟨gb203, 1, none⟩) (Kd.V_far (p := ⟨gb203, 0, none⟩) (Kd.V_mono HO_0.out (fun k_ hk => (⟨hk, hk.2⟩ : _ ∧ k_ ≠ gb203))) (fun _ hk => hk.2) (.int .i64 (-1))) (fun _ hk => hk.2) (.int .i64 0)) (fun _ hk => hk.2) (.int .u64 0)) (fun _ hk => hk.2) (.int .u64 0)) (fun _ hk => ⟨hk.1.1.1, ⟨hk.1.1.2.1, ⟨hk.1.1.2.2, hk.1.2⟩⟩⟩)⟩, ⟨by (with_reducible repeat (first | apply Kd.R_alloc | apply Kd.R_drewN | apply Kd.R_drew)); exact Kd.R_mono (Kd.R_far (p := ⟨gb203, 3, none⟩) (Kd.R_far (p := ⟨gb203, 2, none⟩) (Kd.R_far (p := ⟨gb203, 1, none⟩) (Kd.R_far (p := ⟨gb203, 0, none⟩) (Kd.R_mono HO_3.out (fun k_ hk => (⟨hk, hk.2⟩ : _ ∧ k_ ≠ gb203))) (fun _ hk => hk.2) (.int .i64 (-1))) (fun _ hk => hk.2) (.int .i64 0)) (fun _ hk => hk.2) (.int .u64 0)) (fun _ hk => hk.2) (.int .u64 0)) (fun _ hk => ⟨hk.1.1, hk.1.2⟩)⟩, ⟨by (with_reducible repeat (first | apply Kd.R_alloc | apply Kd.R_drewN | apply Kd.R_drew)); exact Kd.R_mono (Kd.R_far (p := ⟨gb203, 3, none⟩) (Kd.R_far (p := ⟨gb203, 2, none⟩) (Kd.R_far (p := ⟨gb203, 1, none⟩) (Kd.R_far (p := ⟨gb203, 0, none⟩) (Kd.R_types HO_4.out BK203.out (by decide)) (fun _ hk => hk.2) (.int .i64 (-1))) (fun _ hk => hk.2) (.int .i64 0)) (fun _ hk => hk.2) (.int .u64 0)) (fun _ hk => hk.2) (.int .u64 0)) (fun _ hk => hk.1)⟩, ⟨by (with_reducible repeat (first | refine blk_drewN ?_ _ | refine blk_drew ?_ | refine blk_alloc ?_ _)); refine blk_put (cs := #[.int .i64 (-1), .int .i64 0, .int .u64 0, .int .u64 0]) ?_ 3 _ rfl; (with_reducible repeat (first | refine blk_drewN ?_ _ | refine blk_drew ?_ | refine blk_alloc ?_ _)); refine blk_put (cs := #[.int .i64 (-1), .int .i64 0, .int .u64 0, .int .u64 0]) ?_ 2 _ rfl; (with_reducible repeat (first | refine blk_drewN ?_ _ | refine blk_drew ?_ | refine blk_alloc ?_ _)); refine blk_put (cs := #[.int .i64 (-1), .int .i64 0, .int .u64 0, .int .u64 0]) ?_ 1 _ rfl; (with_reducible repeat (first | refine blk_drewN ?_ _ | refine blk_drew ?_ | refine blk_alloc ?_ _)); refine blk_put (cs := #[.int .i64 0, .int .i64 0, .int .u64 0, .int .u64 0]) ?_ 0 _ rfl; (with_reducible repeat (first | refine blk_drewN ?_ _ | refine blk_drew ?_ | refine blk_alloc ?_ _)); exact BK203.out⟩, ⟨by repeat (first | (with_reducible first | exact HB.out | apply below_alloc | apply pw_below_drewN | apply below_drew1 | refine below_set ?_ GE203.out) | exact HB.out)⟩⟩
                          case round =>
                            clear H'
                            try clear c1
                            try clear p1
                            try clear q1
                            try clear hx1
                            try clear hf1
                            try clear c2
                            try clear p2
                            try clear c3
                            try clear c6
                            try clear c6b0
                            try clear c6b1
                            try clear p6
                            try clear c7
                            try clear c7b0
                            try clear c7b1
                            try clear q8
                            try clear c10
                            try clear c10b0
                            try clear c10b1
                            try clear c11
                            try clear c11b0
                            try clear c11b1
                            try clear c16
                            try clear c16b0
                            try clear c17
                            try clear c17b0
                            try clear c18
                            try clear c18b0
                            try clear p19
                            try clear q19
                            try clear hx19
                            try clear hf19
                            try clear c23
                            try clear c23b0
                            try clear c23b1
                            try clear c25
                            try clear c25b0
                            try clear hcz27_0
                            try clear hcz27_1
                            try clear hcz27_2
                            try clear hcz27_3
                            try clear hfz27_0
                            try clear hfz27_1
                            try clear hfz27_2
                            try clear hfz27_3
                            try clear hx19_0
                            try clear p1
                            try clear p19
                            try clear p2
                            try clear p6
                            try clear q1
                            try clear q19
                            try clear q8
                            obtain ⟨x8_4, x204000_4, x204001_4, x204002_4, x204003_4, rfl, HA, HK4, HO_0, HO_3, HO_4, BK203, HB⟩ := hrel
                            cases gk with
                            | zero => exact absurd HA.out (by simp [croftlaw42_SpanRoads.l2])
                            | succ k4 =>
                              have H := HA.out
                              clear HA
                              simp only [croftlaw42_SpanRoads.l2] at H
                              by_cases c28 : x8_4 < (x0_3.length : Int)
                              · rw [if_pos c28] at H
                                have c28b0 : decide (x8_4 < (x0_3.length : Int)) = true := decide_eq_true c28
                                clear c28
                                have H' := Aside0.mk H
                                clear H
                                go_wp2
                                repeat (go_quiet (fail); try go_wp2)
                                go_loopg [9] k4 (fun kq v9 w' => ∃ (x9_5 : Int) (x204000_5 : Int) (x204001_5 : Int) (x204002_5 : Int) (x204003_5 : Int), v9 = .int .i64 x9_5 ∧ Aside0 (croftlaw42_SpanRoads.l3 kq x0_3 t196 x4_3 x6_3 x8_4 x9_5 x204000_5 x204001_5 x204002_5 x204003_5 = some r) ∧ Aside0 (kq ≤ k4) ∧ Aside0 (Kd.V k36 36 w' w.heap.size (fun k_ => (P0_ k_ ∨ w.heap.size ≤ k_) ∧ some k_ ≠ ((.slice Ao24 t196.length co24) : Value).ownBlock ∧ some k_ ≠ (v200 : Value).ownBlock ∧ k_ ≠ gb203) (.slice Ao12 x0_3.length co12) x0_3) ∧ Aside0 (Kd.R k31 31 w' w.heap.size (fun k_ => (w.heap.size ≤ k_) ∧ k_ ≠ gb203) (.slice Ao24 t196.length co24) t196) ∧ Aside0 (Kd.R (Kd.int .i64) 3 w' w.heap.size (fun k_ => (w.heap.size ≤ k_)) v200 x4_3) ∧ Aside0 (w'.heap[gb203]? = some (.cells #[.int .i64 x204000_5, .int .i64 x204001_5, .int .u64 x204002_5, .int .u64 x204003_5] 31 (0, 0))) ∧ Aside0 (Below w.heap.size w w'))
                                case atStart => exact ⟨(wrap64 (x8_4 + 1)), (x204000_4), (x204001_4), (x204002_4), (x204003_4), (by first | rfl | (simp; done) | (simp [*]; done)), H', ⟨Nat.le_refl _⟩, ⟨by (with_reducible repeat (first | apply Kd.V_alloc | apply Kd.V_drewN | apply Kd.V_drew)); exact HO_0.out⟩, ⟨by (with_reducible repeat (first | apply Kd.R_alloc | apply Kd.R_drewN | apply Kd.R_drew)); exact HO_3.out⟩, ⟨by (with_reducible repeat (first | apply Kd.R_alloc | apply Kd.R_drewN | apply Kd.R_drew)); exact HO_4.out⟩, ⟨by (with_reducible repeat (first | refine blk_drewN ?_ _ | refine blk_drew ?_ | refine blk_alloc ?_ _)); exact BK203.out⟩, ⟨by repeat (first | (with_reducible first | exact HB.out | apply below_alloc | apply pw_below_drewN | apply below_drew1 | refine below_set ?_ GE203.out) | exact HB.out)⟩⟩
                                case round =>
                                  clear H'
                                  try clear c1
                                  try clear p1
                                  try clear q1
                                  try clear hx1
                                  try clear hf1
                                  try clear c2
                                  try clear p2
                                  try clear c3
                                  try clear c6
                                  try clear c6b0
                                  try clear c6b1
                                  try clear p6
                                  try clear c7
                                  try clear c7b0
                                  try clear c7b1
                                  try clear q8
                                  try clear c10
                                  try clear c10b0
                                  try clear c10b1
                                  try clear c11
                                  try clear c11b0
                                  try clear c11b1
                                  try clear c16
                                  try clear c16b0
                                  try clear c17
                                  try clear c17b0
                                  try clear c18
                                  try clear c18b0
                                  try clear p19
                                  try clear q19
                                  try clear hx19
                                  try clear hf19
                                  try clear c23
                                  try clear c23b0
                                  try clear c23b1
                                  try clear c25
                                  try clear c25b0
                                  try clear c28
                                  try clear c28b0
                                  try clear hcz27_0
                                  try clear hcz27_1
                                  try clear hcz27_2
                                  try clear hcz27_3
                                  try clear hfz27_0
                                  try clear hfz27_1
                                  try clear hfz27_2
                                  try clear hfz27_3
                                  try clear hx19_0
                                  try clear p1
                                  try clear p19
                                  try clear p2
                                  try clear p6
                                  try clear q1
                                  try clear q19
                                  try clear q8
                                  obtain ⟨x9_5, x204000_5, x204001_5, x204002_5, x204003_5, rfl, HA, HK5, HO_0, HO_3, HO_4, BK203, HB⟩ := hrel
                                  cases gk with
                                  | zero => exact absurd HA.out (by simp [croftlaw42_SpanRoads.l3])
                                  | succ k5 =>
                                    have H := HA.out
                                    clear HA
                                    simp only [croftlaw42_SpanRoads.l3] at H
                                    by_cases c29 : x9_5 < (x0_3.length : Int)
                                    · rw [if_pos c29] at H
                                      have c29b0 : decide (x9_5 < (x0_3.length : Int)) = true := decide_eq_true c29
                                      clear c29
                                      by_cases c30 : 0 ≤ x8_4
                                      · rw [if_pos c30] at H
                                        have c30b0 : decide (0 ≤ x8_4) = true := decide_eq_true c30
                                        clear c30
                                        by_cases c31 : x8_4 < (x0_3.length : Int)
                                        · rw [if_pos c31] at H
                                          have c31b0 : decide (x8_4 < (x0_3.length : Int)) = true := decide_eq_true c31
                                          clear c31
                                          by_cases c32 : 0 ≤ x9_5
                                          · rw [if_pos c32] at H
                                            have c32b0 : decide (0 ≤ x9_5) = true := decide_eq_true c32
                                            clear c32
                                            replace H := Option.bind_eq_some_iff.mp H
                                            obtain ⟨⟨t208, t209⟩, A330, H⟩ := H
                                            replace H : (if x8_4 < (x4_3.length : Int) then (if x9_5 < (x4_3.length : Int) then (if (rd x4_3 x8_4) = (rd x4_3 x9_5) then (croftlaw42_SpanRoads.l3 k5 x0_3 t196 x4_3 x6_3 x8_4 (wrap64 (x9_5 + 1)) x204000_5 x204001_5 x204002_5 x204003_5) else (if x204000_5 < 0 then (croftlaw42_SpanRoads.l3 k5 x0_3 t196 x4_3 x6_3 x8_4 (wrap64 (x9_5 + 1)) x8_4 x9_5 t208 t209) else ((croftref03_Less.f t208 t209 x204002_5 x204003_5).bind fun t212 => (if t212 = true then (croftlaw42_SpanRoads.l3 k5 x0_3 t196 x4_3 x6_3 x8_4 (wrap64 (x9_5 + 1)) x8_4 x9_5 t208 t209) else (croftlaw42_SpanRoads.l3 k5 x0_3 t196 x4_3 x6_3 x8_4 (wrap64 (x9_5 + 1)) x204000_5 x204001_5 x204002_5 x204003_5))))) else (none)) else (none)) = some r := H
                                            have A33 := Aside0.mk A330
                                            clear A330
                                            by_cases c34 : x8_4 < (x4_3.length : Int)
                                            · rw [if_pos c34] at H
                                              have c34b0 : decide (x8_4 < (x4_3.length : Int)) = true := decide_eq_true c34
                                              clear c34
                                              by_cases c35 : x9_5 < (x4_3.length : Int)
                                              · rw [if_pos c35] at H
                                                have c35b0 : decide (x9_5 < (x4_3.length : Int)) = true := decide_eq_true c35
                                                clear c35
                                                by_cases c36 : (rd x4_3 x8_4) = (rd x4_3 x9_5)
                                                · rw [if_pos c36] at H
                                                  have c36b0 : ((rd x4_3 x8_4) == (rd x4_3 x9_5)) = true := beq_iff_eq.mpr c36
                                                  have c36b1 : ((rd x4_3 x8_4) != (rd x4_3 x9_5)) = false := bne_eq_false_iff_eq.mpr c36
                                                  clear c36
                                                  have H' := Aside0.mk H
                                                  clear H
                                                  have p204 : 0 ≤ (x8_4 : Int) := of_decide_eq_true (by first | (with_reducible assumption) | assumption)
                                                  have q204 : x8_4 < (x0_3.length : Int) := of_decide_eq_true (by first | (with_reducible assumption) | assumption)
                                                  obtain ⟨ad204, e204, hx204_0, hx204_1, hx204_2, hx204_3⟩ := at_T36 (Kd.V_reads' HO_0.out).2.2 x8_4 p204 q204
                                                  cases e204
                                                  replace p204 := eq_true p204
                                                  replace q204 := eq_true q204
                                                  have p205 : 0 ≤ (x8_4 : Int) := of_decide_eq_true (by first | (with_reducible assumption) | assumption)
                                                  have q205 : x8_4 < (x0_3.length : Int) := of_decide_eq_true (by first | (with_reducible assumption) | assumption)
                                                  obtain ⟨ad205, e205, hx205_0, hx205_1, hx205_2, hx205_3⟩ := at_T36 (Kd.V_reads' HO_0.out).2.2 x8_4 p205 q205
                                                  obtain rfl : ad204 = ad205 := (by injection e205)
                                                  replace p205 := eq_true p205
                                                  replace q205 := eq_true q205
                                                  have p206 : 0 ≤ (x9_5 : Int) := of_decide_eq_true (by first | (with_reducible assumption) | assumption)
                                                  have q206 : x9_5 < (x0_3.length : Int) := of_decide_eq_true (by first | (with_reducible assumption) | assumption)
                                                  obtain ⟨ad206, e206, hx206_0, hx206_1, hx206_2, hx206_3⟩ := at_T36 (Kd.V_reads' HO_0.out).2.2 x9_5 p206 q206
                                                  obtain rfl : ad204 = ad206 := (by injection e206)
                                                  replace p206 := eq_true p206
                                                  replace q206 := eq_true q206
                                                  have p207 : 0 ≤ (x9_5 : Int) := of_decide_eq_true (by first | (with_reducible assumption) | assumption)
                                                  have q207 : x9_5 < (x0_3.length : Int) := of_decide_eq_true (by first | (with_reducible assumption) | assumption)
                                                  obtain ⟨ad207, e207, hx207_0, hx207_1, hx207_2, hx207_3⟩ := at_T36 (Kd.V_reads' HO_0.out).2.2 x9_5 p207 q207
                                                  obtain rfl : ad204 = ad207 := (by injection e207)
                                                  replace p207 := eq_true p207
                                                  replace q207 := eq_true q207
                                                  go_wp2_with (first | (go_at_call 8; (with_reducible refine (croftref03_Between.calls ((rd_T36 x0_3 x8_4).f1) ((rd_T36 x0_3 x8_4).f2) ((rd_T36 x0_3 x9_5).f1) ((rd_T36 x0_3 x9_5).f2) t208 t209 _ A33.out).mono ?_); rintro e w' ⟨rfl, ⟨nd, rfl⟩⟩; (try first | exact ⟨rfl, _, World.drewN_drewN _ _ _⟩ | exact ⟨rfl, _, Eq.trans (World.drewN_drewN _ _ _) (congrArg (World.drewN _) (Nat.add_assoc _ _ _))⟩); obtain ⟨Ao37, co37, eo37⟩ := Kd.R_slice HO_4.out; subst eo37; have p210 : 0 ≤ (x8_4 : Int) := of_decide_eq_true (by first | (with_reducible assumption) | assumption); have q210 : x8_4 < (x4_3.length : Int) := of_decide_eq_true (by first | (with_reducible assumption) | assumption); obtain ⟨ad210, e210, hx210_0⟩ := Kd.at_int (Kd.R_reads' HO_4.out).2.2 x8_4 p210 q210; cases e210; replace p210 := eq_true p210; replace q210 := eq_true q210; have p211 : 0 ≤ (x9_5 : Int) := of_decide_eq_true (by first | (with_reducible assumption) | assumption); have q211 : x9_5 < (x4_3.length : Int) := of_decide_eq_true (by first | (with_reducible assumption) | assumption); obtain ⟨ad211, e211, hx211_0⟩ := Kd.at_int (Kd.R_reads' HO_4.out).2.2 x9_5 p211 q211; obtain rfl : ad210 = ad211 := (by injection e211); replace p211 := eq_true p211; replace q211 := eq_true q211))
                                                  repeat (go_quiet (first | (go_at_call 8; (with_reducible refine (croftref03_Between.calls ((rd_T36 x0_3 x8_4).f1) ((rd_T36 x0_3 x8_4).f2) ((rd_T36 x0_3 x9_5).f1) ((rd_T36 x0_3 x9_5).f2) t208 t209 _ A33.out).mono ?_); rintro e w' ⟨rfl, ⟨nd, rfl⟩⟩; (try first | exact ⟨rfl, _, World.drewN_drewN _ _ _⟩ | exact ⟨rfl, _, Eq.trans (World.drewN_drewN _ _ _) (congrArg (World.drewN _) (Nat.add_assoc _ _ _))⟩); obtain ⟨Ao37, co37, eo37⟩ := Kd.R_slice HO_4.out; subst eo37; have p210 : 0 ≤ (x8_4 : Int) := of_decide_eq_true (by first | (with_reducible assumption) | assumption); have q210 : x8_4 < (x4_3.length : Int) := of_decide_eq_true (by first | (with_reducible assumption) | assumption); obtain ⟨ad210, e210, hx210_0⟩ := Kd.at_int (Kd.R_reads' HO_4.out).2.2 x8_4 p210 q210; cases e210; replace p210 := eq_true p210; replace q210 := eq_true q210; have p211 : 0 ≤ (x9_5 : Int) := of_decide_eq_true (by first | (with_reducible assumption) | assumption); have q211 : x9_5 < (x4_3.length : Int) := of_decide_eq_true (by first | (with_reducible assumption) | assumption); obtain ⟨ad211, e211, hx211_0⟩ := Kd.at_int (Kd.R_reads' HO_4.out).2.2 x9_5 p211 q211; obtain rfl : ad210 = ad211 := (by injection e211); replace p211 := eq_true p211; replace q211 := eq_true q211)); try go_wp2_with (first | (go_at_call 8; (with_reducible refine (croftref03_Between.calls ((rd_T36 x0_3 x8_4).f1) ((rd_T36 x0_3 x8_4).f2) ((rd_T36 x0_3 x9_5).f1) ((rd_T36 x0_3 x9_5).f2) t208 t209 _ A33.out).mono ?_); rintro e w' ⟨rfl, ⟨nd, rfl⟩⟩; (try first | exact ⟨rfl, _, World.drewN_drewN _ _ _⟩ | exact ⟨rfl, _, Eq.trans (World.drewN_drewN _ _ _) (congrArg (World.drewN _) (Nat.add_assoc _ _ _))⟩); obtain ⟨Ao37, co37, eo37⟩ := Kd.R_slice HO_4.out; subst eo37; have p210 : 0 ≤ (x8_4 : Int) := of_decide_eq_true (by first | (with_reducible assumption) | assumption); have q210 : x8_4 < (x4_3.length : Int) := of_decide_eq_true (by first | (with_reducible assumption) | assumption); obtain ⟨ad210, e210, hx210_0⟩ := Kd.at_int (Kd.R_reads' HO_4.out).2.2 x8_4 p210 q210; cases e210; replace p210 := eq_true p210; replace q210 := eq_true q210; have p211 : 0 ≤ (x9_5 : Int) := of_decide_eq_true (by first | (with_reducible assumption) | assumption); have q211 : x9_5 < (x4_3.length : Int) := of_decide_eq_true (by first | (with_reducible assumption) | assumption); obtain ⟨ad211, e211, hx211_0⟩ := Kd.at_int (Kd.R_reads' HO_4.out).2.2 x9_5 p211 q211; obtain rfl : ad210 = ad211 := (by injection e211); replace p211 := eq_true p211; replace q211 := eq_true q211)))
                                                  go_roundg k5
                                                  case measure => have := HJ3.out; have := HK2.out; have := HK3.out; have := HK4.out; have := HK5.out; omega
                                                  case rel => exact ⟨(wrap64 (x9_5 + 1)), (x204000_5), (x204001_5), (x204002_5), (x204003_5), (by first | rfl | (simp; done) | (simp [*]; done)), H', ⟨by have := HJ3.out; have := HK2.out; have := HK3.out; have := HK4.out; have := HK5.out; omega⟩, ⟨by (with_reducible repeat (first | apply Kd.V_alloc | apply Kd.V_drewN | apply Kd.V_drew)); exact HO_0.out⟩, ⟨by (with_reducible repeat (first | apply Kd.R_alloc | apply Kd.R_drewN | apply Kd.R_drew)); exact HO_3.out⟩, ⟨by (with_reducible repeat (first | apply Kd.R_alloc | apply Kd.R_drewN | apply Kd.R_drew)); exact HO_4.out⟩, ⟨by (with_reducible repeat (first | refine blk_drewN ?_ _ | refine blk_drew ?_ | refine blk_alloc ?_ _)); exact BK203.out⟩, ⟨by repeat (first | (with_reducible first | exact HB.out | apply below_alloc | apply pw_below_drewN | apply below_drew1 | refine below_set ?_ GE203.out) | exact HB.out)⟩⟩
                                                · rw [if_neg c36] at H
                                                  have c36b0 : ((rd x4_3 x8_4) == (rd x4_3 x9_5)) = false := beq_eq_false_iff_ne.mpr c36
                                                  have c36b1 : ((rd x4_3 x8_4) != (rd x4_3 x9_5)) = true := bne_iff_ne.mpr c36
                                                  by_cases c38 : x204000_5 < 0
                                                  · rw [if_pos c38] at H
                                                    have c38b0 : decide (x204000_5 < 0) = true := decide_eq_true c38
                                                    clear c38
                                                    have H' := Aside0.mk H
                                                    clear H
                                                    have p204 : 0 ≤ (x8_4 : Int) := of_decide_eq_true (by first | (with_reducible assumption) | assumption)
                                                    have q204 : x8_4 < (x0_3.length : Int) := of_decide_eq_true (by first | (with_reducible assumption) | assumption)
                                                    obtain ⟨ad204, e204, hx204_0, hx204_1, hx204_2, hx204_3⟩ := at_T36 (Kd.V_reads' HO_0.out).2.2 x8_4 p204 q204
                                                    cases e204
                                                    replace p204 := eq_true p204
                                                    replace q204 := eq_true q204
                                                    have p205 : 0 ≤ (x8_4 : Int) := of_decide_eq_true (by first | (with_reducible assumption) | assumption)
                                                    have q205 : x8_4 < (x0_3.length : Int) := of_decide_eq_true (by first | (with_reducible assumption) | assumption)
                                                    obtain ⟨ad205, e205, hx205_0, hx205_1, hx205_2, hx205_3⟩ := at_T36 (Kd.V_reads' HO_0.out).2.2 x8_4 p205 q205
                                                    obtain rfl : ad204 = ad205 := (by injection e205)
                                                    replace p205 := eq_true p205
                                                    replace q205 := eq_true q205
                                                    have p206 : 0 ≤ (x9_5 : Int) := of_decide_eq_true (by first | (with_reducible assumption) | assumption)
                                                    have q206 : x9_5 < (x0_3.length : Int) := of_decide_eq_true (by first | (with_reducible assumption) | assumption)
                                                    obtain ⟨ad206, e206, hx206_0, hx206_1, hx206_2, hx206_3⟩ := at_T36 (Kd.V_reads' HO_0.out).2.2 x9_5 p206 q206
                                                    obtain rfl : ad204 = ad206 := (by injection e206)
                                                    replace p206 := eq_true p206
                                                    replace q206 := eq_true q206
                                                    have p207 : 0 ≤ (x9_5 : Int) := of_decide_eq_true (by first | (with_reducible assumption) | assumption)
                                                    have q207 : x9_5 < (x0_3.length : Int) := of_decide_eq_true (by first | (with_reducible assumption) | assumption)
                                                    obtain ⟨ad207, e207, hx207_0, hx207_1, hx207_2, hx207_3⟩ := at_T36 (Kd.V_reads' HO_0.out).2.2 x9_5 p207 q207
                                                    obtain rfl : ad204 = ad207 := (by injection e207)
                                                    replace p207 := eq_true p207
                                                    replace q207 := eq_true q207
                                                    go_wp2_with (first | (go_at_call 8; (with_reducible refine (croftref03_Between.calls ((rd_T36 x0_3 x8_4).f1) ((rd_T36 x0_3 x8_4).f2) ((rd_T36 x0_3 x9_5).f1) ((rd_T36 x0_3 x9_5).f2) t208 t209 _ A33.out).mono ?_); rintro e w' ⟨rfl, ⟨nd, rfl⟩⟩; (try first | exact ⟨rfl, _, World.drewN_drewN _ _ _⟩ | exact ⟨rfl, _, Eq.trans (World.drewN_drewN _ _ _) (congrArg (World.drewN _) (Nat.add_assoc _ _ _))⟩); obtain ⟨Ao39, co39, eo39⟩ := Kd.R_slice HO_4.out; subst eo39; have p210 : 0 ≤ (x8_4 : Int) := of_decide_eq_true (by first | (with_reducible assumption) | assumption); have q210 : x8_4 < (x4_3.length : Int) := of_decide_eq_true (by first | (with_reducible assumption) | assumption); obtain ⟨ad210, e210, hx210_0⟩ := Kd.at_int (Kd.R_reads' HO_4.out).2.2 x8_4 p210 q210; cases e210; replace p210 := eq_true p210; replace q210 := eq_true q210; have p211 : 0 ≤ (x9_5 : Int) := of_decide_eq_true (by first | (with_reducible assumption) | assumption); have q211 : x9_5 < (x4_3.length : Int) := of_decide_eq_true (by first | (with_reducible assumption) | assumption); obtain ⟨ad211, e211, hx211_0⟩ := Kd.at_int (Kd.R_reads' HO_4.out).2.2 x9_5 p211 q211; obtain rfl : ad210 = ad211 := (by injection e211); replace p211 := eq_true p211; replace q211 := eq_true q211; have hcz40_0 : wr.cell? ⟨gb203, 0, none⟩ = some (.int .i64 x204000_5) := (blk_cell BK203.out 0).trans rfl; have hcz40_1 : wr.cell? ⟨gb203, 1, none⟩ = some (.int .i64 x204001_5) := (blk_cell BK203.out 1).trans rfl; have hcz40_2 : wr.cell? ⟨gb203, 2, none⟩ = some (.int .u64 x204002_5) := (blk_cell BK203.out 2).trans rfl; have hcz40_3 : wr.cell? ⟨gb203, 3, none⟩ = some (.int .u64 x204003_5) := (blk_cell BK203.out 3).trans rfl; have hfz40_0 := blk_frozen BK203.out 0; have hfz40_1 := blk_frozen BK203.out 1; have hfz40_2 := blk_frozen BK203.out 2; have hfz40_3 := blk_frozen BK203.out 3))
                                                    repeat (go_quiet (first | (go_at_call 8; (with_reducible refine (croftref03_Between.calls ((rd_T36 x0_3 x8_4).f1) ((rd_T36 x0_3 x8_4).f2) ((rd_T36 x0_3 x9_5).f1) ((rd_T36 x0_3 x9_5).f2) t208 t209 _ A33.out).mono ?_); rintro e w' ⟨rfl, ⟨nd, rfl⟩⟩; (try first | exact ⟨rfl, _, World.drewN_drewN _ _ _⟩ | exact ⟨rfl, _, Eq.trans (World.drewN_drewN _ _ _) (congrArg (World.drewN _) (Nat.add_assoc _ _ _))⟩); obtain ⟨Ao39, co39, eo39⟩ := Kd.R_slice HO_4.out; subst eo39; have p210 : 0 ≤ (x8_4 : Int) := of_decide_eq_true (by first | (with_reducible assumption) | assumption); have q210 : x8_4 < (x4_3.length : Int) := of_decide_eq_true (by first | (with_reducible assumption) | assumption); obtain ⟨ad210, e210, hx210_0⟩ := Kd.at_int (Kd.R_reads' HO_4.out).2.2 x8_4 p210 q210; cases e210; replace p210 := eq_true p210; replace q210 := eq_true q210; have p211 : 0 ≤ (x9_5 : Int) := of_decide_eq_true (by first | (with_reducible assumption) | assumption); have q211 : x9_5 < (x4_3.length : Int) := of_decide_eq_true (by first | (with_reducible assumption) | assumption); obtain ⟨ad211, e211, hx211_0⟩ := Kd.at_int (Kd.R_reads' HO_4.out).2.2 x9_5 p211 q211; obtain rfl : ad210 = ad211 := (by injection e211); replace p211 := eq_true p211; replace q211 := eq_true q211; have hcz40_0 : wr.cell? ⟨gb203, 0, none⟩ = some (.int .i64 x204000_5) := (blk_cell BK203.out 0).trans rfl; have hcz40_1 : wr.cell? ⟨gb203, 1, none⟩ = some (.int .i64 x204001_5) := (blk_cell BK203.out 1).trans rfl; have hcz40_2 : wr.cell? ⟨gb203, 2, none⟩ = some (.int .u64 x204002_5) := (blk_cell BK203.out 2).trans rfl; have hcz40_3 : wr.cell? ⟨gb203, 3, none⟩ = some (.int .u64 x204003_5) := (blk_cell BK203.out 3).trans rfl; have hfz40_0 := blk_frozen BK203.out 0; have hfz40_1 := blk_frozen BK203.out 1; have hfz40_2 := blk_frozen BK203.out 2; have hfz40_3 := blk_frozen BK203.out 3)); try go_wp2_with (first | (go_at_call 8; (with_reducible refine (croftref03_Between.calls ((rd_T36 x0_3 x8_4).f1) ((rd_T36 x0_3 x8_4).f2) ((rd_T36 x0_3 x9_5).f1) ((rd_T36 x0_3 x9_5).f2) t208 t209 _ A33.out).mono ?_); rintro e w' ⟨rfl, ⟨nd, rfl⟩⟩; (try first | exact ⟨rfl, _, World.drewN_drewN _ _ _⟩ | exact ⟨rfl, _, Eq.trans (World.drewN_drewN _ _ _) (congrArg (World.drewN _) (Nat.add_assoc _ _ _))⟩); obtain ⟨Ao39, co39, eo39⟩ := Kd.R_slice HO_4.out; subst eo39; have p210 : 0 ≤ (x8_4 : Int) := of_decide_eq_true (by first | (with_reducible assumption) | assumption); have q210 : x8_4 < (x4_3.length : Int) := of_decide_eq_true (by first | (with_reducible assumption) | assumption); obtain ⟨ad210, e210, hx210_0⟩ := Kd.at_int (Kd.R_reads' HO_4.out).2.2 x8_4 p210 q210; cases e210; replace p210 := eq_true p210; replace q210 := eq_true q210; have p211 : 0 ≤ (x9_5 : Int) := of_decide_eq_true (by first | (with_reducible assumption) | assumption); have q211 : x9_5 < (x4_3.length : Int) := of_decide_eq_true (by first | (with_reducible assumption) | assumption); obtain ⟨ad211, e211, hx211_0⟩ := Kd.at_int (Kd.R_reads' HO_4.out).2.2 x9_5 p211 q211; obtain rfl : ad210 = ad211 := (by injection e211); replace p211 := eq_true p211; replace q211 := eq_true q211; have hcz40_0 : wr.cell? ⟨gb203, 0, none⟩ = some (.int .i64 x204000_5) := (blk_cell BK203.out 0).trans rfl; have hcz40_1 : wr.cell? ⟨gb203, 1, none⟩ = some (.int .i64 x204001_5) := (blk_cell BK203.out 1).trans rfl; have hcz40_2 : wr.cell? ⟨gb203, 2, none⟩ = some (.int .u64 x204002_5) := (blk_cell BK203.out 2).trans rfl; have hcz40_3 : wr.cell? ⟨gb203, 3, none⟩ = some (.int .u64 x204003_5) := (blk_cell BK203.out 3).trans rfl; have hfz40_0 := blk_frozen BK203.out 0; have hfz40_1 := blk_frozen BK203.out 1; have hfz40_2 := blk_frozen BK203.out 2; have hfz40_3 := blk_frozen BK203.out 3)))
                                                    go_roundg k5
                                                    case measure => have := HJ3.out; have := HK2.out; have := HK3.out; have := HK4.out; have := HK5.out; omega
                                                    case rel => exact ⟨(wrap64 (x9_5 + 1)), (x8_4), (x9_5), (t208), (t209), (by first | rfl | (simp; done) | (simp [*]; done)), H', ⟨by have := HJ3.out; have := HK2.out; have := HK3.out; have := HK4.out; have := HK5.out; omega⟩, ⟨by (with_reducible repeat (first | apply Kd.V_alloc | apply Kd.V_drewN | apply Kd.V_drew)); exact Kd.V_mono (Kd.V_far (p := ⟨gb203, 3, none⟩) (Kd.V_far (p := ⟨gb203, 2, none⟩) (Kd.V_far (p := ⟨gb203, 1, none⟩) (Kd.V_far (p := ⟨gb203, 0, none⟩) (Kd.V_mono HO_0.out (fun k_ hk => (⟨hk, hk.2.2.2⟩ : _ ∧ k_ ≠ gb203))) (fun _ hk => hk.2) (.int .i64 x8_4)) (fun _ hk => hk.2) (.int .i64 x9_5)) (fun _ hk => hk.2) (.int .u64 t208)) (fun _ hk => hk.2) (.int .u64 t209)) (fun _ hk => ⟨hk.1.1, ⟨hk.1.2.1, ⟨hk.1.2.2.1, hk.1.2.2.2⟩⟩⟩)⟩, ⟨by (with_reducible repeat (first | apply Kd.R_alloc | apply Kd.R_drewN | apply Kd.R_drew)); exact Kd.R_mono (Kd.R_far (p := ⟨gb203, 3, none⟩) (Kd.R_far (p := ⟨gb203, 2, none⟩) (Kd.R_far (p := ⟨gb203, 1, none⟩) (Kd.R_far (p := ⟨gb203, 0, none⟩) (Kd.R_mono HO_3.out (fun k_ hk => (⟨hk, hk.2⟩ : _ ∧ k_ ≠ gb203))) (fun _ hk => hk.2) (.int .i64 x8_4)) (fun _ hk => hk.2) (.int .i64 x9_5)) (fun _ hk => hk.2) (.int .u64 t208)) (fun _ hk => hk.2) (.int .u64 t209)) (fun _ hk => ⟨hk.1.1, hk.1.2⟩)⟩, ⟨by (with_reducible repeat (first | apply Kd.R_alloc | apply Kd.R_drewN | apply Kd.R_drew)); exact Kd.R_mono (Kd.R_far (p := ⟨gb203, 3, none⟩) (Kd.R_far (p := ⟨gb203, 2, none⟩) (Kd.R_far (p := ⟨gb203, 1, none⟩) (Kd.R_far (p := ⟨gb203, 0, none⟩) (Kd.R_types HO_4.out BK203.out (by decide)) (fun _ hk => hk.2) (.int .i64 x8_4)) (fun _ hk => hk.2) (.int .i64 x9_5)) (fun _ hk => hk.2) (.int .u64 t208)) (fun _ hk => hk.2) (.int .u64 t209)) (fun _ hk => hk.1)⟩, ⟨by (with_reducible repeat (first | refine blk_drewN ?_ _ | refine blk_drew ?_ | refine blk_alloc ?_ _)); refine blk_put (cs := #[.int .i64 x8_4, .int .i64 x9_5, .int .u64 t208, .int .u64 x204003_5]) ?_ 3 _ rfl; (with_reducible repeat (first | refine blk_drewN ?_ _ | refine blk_drew ?_ | refine blk_alloc ?_ _)); refine blk_put (cs := #[.int .i64 x8_4, .int .i64 x9_5, .int .u64 x204002_5, .int .u64 x204003_5]) ?_ 2 _ rfl; (with_reducible repeat (first | refine blk_drewN ?_ _ | refine blk_drew ?_ | refine blk_alloc ?_ _)); refine blk_put (cs := #[.int .i64 x8_4, .int .i64 x204001_5, .int .u64 x204002_5, .int .u64 x204003_5]) ?_ 1 _ rfl; (with_reducible repeat (first | refine blk_drewN ?_ _ | refine blk_drew ?_ | refine blk_alloc ?_ _)); refine blk_put (cs := #[.int .i64 x204000_5, .int .i64 x204001_5, .int .u64 x204002_5, .int .u64 x204003_5]) ?_ 0 _ rfl; (with_reducible repeat (first | refine blk_drewN ?_ _ | refine blk_drew ?_ | refine blk_alloc ?_ _)); exact BK203.out⟩, ⟨by repeat (first | (with_reducible first | exact HB.out | apply below_alloc | apply pw_below_drewN | apply below_drew1 | refine below_set ?_ GE203.out) | exact HB.out)⟩⟩
                                                  · rw [if_neg c38] at H
                                                    have c38b0 : decide (x204000_5 < 0) = false := decide_eq_false c38
                                                    clear c38
                                                    replace H := Option.bind_eq_some_iff.mp H
                                                    obtain ⟨t212, A410, H⟩ := H
                                                    replace H : (if t212 = true then (croftlaw42_SpanRoads.l3 k5 x0_3 t196 x4_3 x6_3 x8_4 (wrap64 (x9_5 + 1)) x8_4 x9_5 t208 t209) else (croftlaw42_SpanRoads.l3 k5 x0_3 t196 x4_3 x6_3 x8_4 (wrap64 (x9_5 + 1)) x204000_5 x204001_5 x204002_5 x204003_5)) = some r := H
                                                    have A41 := Aside0.mk A410
                                                    clear A410
                                                    by_cases c42 : t212 = true
                                                    · subst c42
                                                      have H1 : (croftlaw42_SpanRoads.l3 k5 x0_3 t196 x4_3 x6_3 x8_4 (wrap64 (x9_5 + 1)) x8_4 x9_5 t208 t209) = some r := by rw [if_pos rfl] at H; exact H
                                                      clear H
                                                      have H := H1
                                                      clear H1
                                                      have H' := Aside0.mk H
                                                      clear H
                                                      have p204 : 0 ≤ (x8_4 : Int) := of_decide_eq_true (by first | (with_reducible assumption) | assumption)
                                                      have q204 : x8_4 < (x0_3.length : Int) := of_decide_eq_true (by first | (with_reducible assumption) | assumption)
                                                      obtain ⟨ad204, e204, hx204_0, hx204_1, hx204_2, hx204_3⟩ := at_T36 (Kd.V_reads' HO_0.out).2.2 x8_4 p204 q204
                                                      cases e204
                                                      replace p204 := eq_true p204
                                                      replace q204 := eq_true q204
                                                      have p205 : 0 ≤ (x8_4 : Int) := of_decide_eq_true (by first | (with_reducible assumption) | assumption)
                                                      have q205 : x8_4 < (x0_3.length : Int) := of_decide_eq_true (by first | (with_reducible assumption) | assumption)
                                                      obtain ⟨ad205, e205, hx205_0, hx205_1, hx205_2, hx205_3⟩ := at_T36 (Kd.V_reads' HO_0.out).2.2 x8_4 p205 q205
                                                      obtain rfl : ad204 = ad205 := (by injection e205)
                                                      replace p205 := eq_true p205
                                                      replace q205 := eq_true q205
                                                      have p206 : 0 ≤ (x9_5 : Int) := of_decide_eq_true (by first | (with_reducible assumption) | assumption)
                                                      have q206 : x9_5 < (x0_3.length : Int) := of_decide_eq_true (by first | (with_reducible assumption) | assumption)
                                                      obtain ⟨ad206, e206, hx206_0, hx206_1, hx206_2, hx206_3⟩ := at_T36 (Kd.V_reads' HO_0.out).2.2 x9_5 p206 q206
                                                      obtain rfl : ad204 = ad206 := (by injection e206)
                                                      replace p206 := eq_true p206
                                                      replace q206 := eq_true q206
                                                      have p207 : 0 ≤ (x9_5 : Int) := of_decide_eq_true (by first | (with_reducible assumption) | assumption)
                                                      have q207 : x9_5 < (x0_3.length : Int) := of_decide_eq_true (by first | (with_reducible assumption) | assumption)
                                                      obtain ⟨ad207, e207, hx207_0, hx207_1, hx207_2, hx207_3⟩ := at_T36 (Kd.V_reads' HO_0.out).2.2 x9_5 p207 q207
                                                      obtain rfl : ad204 = ad207 := (by injection e207)
                                                      replace p207 := eq_true p207
                                                      replace q207 := eq_true q207
                                                      go_wp2_with (first | (go_at_call 8; (with_reducible refine (croftref03_Between.calls ((rd_T36 x0_3 x8_4).f1) ((rd_T36 x0_3 x8_4).f2) ((rd_T36 x0_3 x9_5).f1) ((rd_T36 x0_3 x9_5).f2) t208 t209 _ A33.out).mono ?_); rintro e w' ⟨rfl, ⟨nd, rfl⟩⟩; (try first | exact ⟨rfl, _, World.drewN_drewN _ _ _⟩ | exact ⟨rfl, _, Eq.trans (World.drewN_drewN _ _ _) (congrArg (World.drewN _) (Nat.add_assoc _ _ _))⟩); obtain ⟨Ao43, co43, eo43⟩ := Kd.R_slice HO_4.out; subst eo43; have p210 : 0 ≤ (x8_4 : Int) := of_decide_eq_true (by first | (with_reducible assumption) | assumption); have q210 : x8_4 < (x4_3.length : Int) := of_decide_eq_true (by first | (with_reducible assumption) | assumption); obtain ⟨ad210, e210, hx210_0⟩ := Kd.at_int (Kd.R_reads' HO_4.out).2.2 x8_4 p210 q210; cases e210; replace p210 := eq_true p210; replace q210 := eq_true q210; have p211 : 0 ≤ (x9_5 : Int) := of_decide_eq_true (by first | (with_reducible assumption) | assumption); have q211 : x9_5 < (x4_3.length : Int) := of_decide_eq_true (by first | (with_reducible assumption) | assumption); obtain ⟨ad211, e211, hx211_0⟩ := Kd.at_int (Kd.R_reads' HO_4.out).2.2 x9_5 p211 q211; obtain rfl : ad210 = ad211 := (by injection e211); replace p211 := eq_true p211; replace q211 := eq_true q211; have hcz44_0 : wr.cell? ⟨gb203, 0, none⟩ = some (.int .i64 x204000_5) := (blk_cell BK203.out 0).trans rfl; have hcz44_1 : wr.cell? ⟨gb203, 1, none⟩ = some (.int .i64 x204001_5) := (blk_cell BK203.out 1).trans rfl; have hcz44_2 : wr.cell? ⟨gb203, 2, none⟩ = some (.int .u64 x204002_5) := (blk_cell BK203.out 2).trans rfl; have hcz44_3 : wr.cell? ⟨gb203, 3, none⟩ = some (.int .u64 x204003_5) := (blk_cell BK203.out 3).trans rfl; have hfz44_0 := blk_frozen BK203.out 0; have hfz44_1 := blk_frozen BK203.out 1; have hfz44_2 := blk_frozen BK203.out 2; have hfz44_3 := blk_frozen BK203.out 3) | (go_at_call 9; (with_reducible refine (croftref03_Less.calls t208 t209 x204002_5 x204003_5 true _ A41.out).mono ?_); rintro e w' ⟨rfl, ⟨nd, rfl⟩⟩; (try first | exact ⟨rfl, _, World.drewN_drewN _ _ _⟩ | exact ⟨rfl, _, Eq.trans (World.drewN_drewN _ _ _) (congrArg (World.drewN _) (Nat.add_assoc _ _ _))⟩)))
                                                      repeat (go_quiet (first | (go_at_call 8; (with_reducible refine (croftref03_Between.calls ((rd_T36 x0_3 x8_4).f1) ((rd_T36 x0_3 x8_4).f2) ((rd_T36 x0_3 x9_5).f1) ((rd_T36 x0_3 x9_5).f2) t208 t209 _ A33.out).mono ?_); rintro e w' ⟨rfl, ⟨nd, rfl⟩⟩; (try first | exact ⟨rfl, _, World.drewN_drewN _ _ _⟩ | exact ⟨rfl, _, Eq.trans (World.drewN_drewN _ _ _) (congrArg (World.drewN _) (Nat.add_assoc _ _ _))⟩); obtain ⟨Ao43, co43, eo43⟩ := Kd.R_slice HO_4.out; subst eo43; have p210 : 0 ≤ (x8_4 : Int) := of_decide_eq_true (by first | (with_reducible assumption) | assumption); have q210 : x8_4 < (x4_3.length : Int) := of_decide_eq_true (by first | (with_reducible assumption) | assumption); obtain ⟨ad210, e210, hx210_0⟩ := Kd.at_int (Kd.R_reads' HO_4.out).2.2 x8_4 p210 q210; cases e210; replace p210 := eq_true p210; replace q210 := eq_true q210; have p211 : 0 ≤ (x9_5 : Int) := of_decide_eq_true (by first | (with_reducible assumption) | assumption); have q211 : x9_5 < (x4_3.length : Int) := of_decide_eq_true (by first | (with_reducible assumption) | assumption); obtain ⟨ad211, e211, hx211_0⟩ := Kd.at_int (Kd.R_reads' HO_4.out).2.2 x9_5 p211 q211; obtain rfl : ad210 = ad211 := (by injection e211); replace p211 := eq_true p211; replace q211 := eq_true q211; have hcz44_0 : wr.cell? ⟨gb203, 0, none⟩ = some (.int .i64 x204000_5) := (blk_cell BK203.out 0).trans rfl; have hcz44_1 : wr.cell? ⟨gb203, 1, none⟩ = some (.int .i64 x204001_5) := (blk_cell BK203.out 1).trans rfl; have hcz44_2 : wr.cell? ⟨gb203, 2, none⟩ = some (.int .u64 x204002_5) := (blk_cell BK203.out 2).trans rfl; have hcz44_3 : wr.cell? ⟨gb203, 3, none⟩ = some (.int .u64 x204003_5) := (blk_cell BK203.out 3).trans rfl; have hfz44_0 := blk_frozen BK203.out 0; have hfz44_1 := blk_frozen BK203.out 1; have hfz44_2 := blk_frozen BK203.out 2; have hfz44_3 := blk_frozen BK203.out 3) | (go_at_call 9; (with_reducible refine (croftref03_Less.calls t208 t209 x204002_5 x204003_5 true _ A41.out).mono ?_); rintro e w' ⟨rfl, ⟨nd, rfl⟩⟩; (try first | exact ⟨rfl, _, World.drewN_drewN _ _ _⟩ | exact ⟨rfl, _, Eq.trans (World.drewN_drewN _ _ _) (congrArg (World.drewN _) (Nat.add_assoc _ _ _))⟩))); try go_wp2_with (first | (go_at_call 8; (with_reducible refine (croftref03_Between.calls ((rd_T36 x0_3 x8_4).f1) ((rd_T36 x0_3 x8_4).f2) ((rd_T36 x0_3 x9_5).f1) ((rd_T36 x0_3 x9_5).f2) t208 t209 _ A33.out).mono ?_); rintro e w' ⟨rfl, ⟨nd, rfl⟩⟩; (try first | exact ⟨rfl, _, World.drewN_drewN _ _ _⟩ | exact ⟨rfl, _, Eq.trans (World.drewN_drewN _ _ _) (congrArg (World.drewN _) (Nat.add_assoc _ _ _))⟩); obtain ⟨Ao43, co43, eo43⟩ := Kd.R_slice HO_4.out; subst eo43; have p210 : 0 ≤ (x8_4 : Int) := of_decide_eq_true (by first | (with_reducible assumption) | assumption); have q210 : x8_4 < (x4_3.length : Int) := of_decide_eq_true (by first | (with_reducible assumption) | assumption); obtain ⟨ad210, e210, hx210_0⟩ := Kd.at_int (Kd.R_reads' HO_4.out).2.2 x8_4 p210 q210; cases e210; replace p210 := eq_true p210; replace q210 := eq_true q210; have p211 : 0 ≤ (x9_5 : Int) := of_decide_eq_true (by first | (with_reducible assumption) | assumption); have q211 : x9_5 < (x4_3.length : Int) := of_decide_eq_true (by first | (with_reducible assumption) | assumption); obtain ⟨ad211, e211, hx211_0⟩ := Kd.at_int (Kd.R_reads' HO_4.out).2.2 x9_5 p211 q211; obtain rfl : ad210 = ad211 := (by injection e211); replace p211 := eq_true p211; replace q211 := eq_true q211; have hcz44_0 : wr.cell? ⟨gb203, 0, none⟩ = some (.int .i64 x204000_5) := (blk_cell BK203.out 0).trans rfl; have hcz44_1 : wr.cell? ⟨gb203, 1, none⟩ = some (.int .i64 x204001_5) := (blk_cell BK203.out 1).trans rfl; have hcz44_2 : wr.cell? ⟨gb203, 2, none⟩ = some (.int .u64 x204002_5) := (blk_cell BK203.out 2).trans rfl; have hcz44_3 : wr.cell? ⟨gb203, 3, none⟩ = some (.int .u64 x204003_5) := (blk_cell BK203.out 3).trans rfl; have hfz44_0 := blk_frozen BK203.out 0; have hfz44_1 := blk_frozen BK203.out 1; have hfz44_2 := blk_frozen BK203.out 2; have hfz44_3 := blk_frozen BK203.out 3) | (go_at_call 9; (with_reducible refine (croftref03_Less.calls t208 t209 x204002_5 x204003_5 true _ A41.out).mono ?_); rintro e w' ⟨rfl, ⟨nd, rfl⟩⟩; (try first | exact ⟨rfl, _, World.drewN_drewN _ _ _⟩ | exact ⟨rfl, _, Eq.trans (World.drewN_drewN _ _ _) (congrArg (World.drewN _) (Nat.add_assoc _ _ _))⟩))))
                                                      go_roundg k5
                                                      case measure => have := HJ3.out; have := HK2.out; have := HK3.out; have := HK4.out; have := HK5.out; omega
                                                      case rel => exact ⟨(wrap64 (x9_5 + 1)), (x8_4), (x9_5), (t208), (t209), (by first | rfl | (simp; done) | (simp [*]; done)), H', ⟨by have := HJ3.out; have := HK2.out; have := HK3.out; have := HK4.out; have := HK5.out; omega⟩, ⟨by (with_reducible repeat (first | apply Kd.V_alloc | apply Kd.V_drewN | apply Kd.V_drew)); exact Kd.V_mono (Kd.V_far (p := ⟨gb203, 3, none⟩) (Kd.V_far (p := ⟨gb203, 2, none⟩) (Kd.V_far (p := ⟨gb203, 1, none⟩) (Kd.V_far (p := ⟨gb203, 0, none⟩) (Kd.V_mono HO_0.out (fun k_ hk => (⟨hk, hk.2.2.2⟩ : _ ∧ k_ ≠ gb203))) (fun _ hk => hk.2) (.int .i64 x8_4)) (fun _ hk => hk.2) (.int .i64 x9_5)) (fun _ hk => hk.2) (.int .u64 t208)) (fun _ hk => hk.2) (.int .u64 t209)) (fun _ hk => ⟨hk.1.1, ⟨hk.1.2.1, ⟨hk.1.2.2.1, hk.1.2.2.2⟩⟩⟩)⟩, ⟨by (with_reducible repeat (first | apply Kd.R_alloc | apply Kd.R_drewN | apply Kd.R_drew)); exact Kd.R_mono (Kd.R_far (p := ⟨gb203, 3, none⟩) (Kd.R_far (p := ⟨gb203, 2, none⟩) (Kd.R_far (p := ⟨gb203, 1, none⟩) (Kd.R_far (p := ⟨gb203, 0, none⟩) (Kd.R_mono HO_3.out (fun k_ hk => (⟨hk, hk.2⟩ : _ ∧ k_ ≠ gb203))) (fun _ hk => hk.2) (.int .i64 x8_4)) (fun _ hk => hk.2) (.int .i64 x9_5)) (fun _ hk => hk.2) (.int .u64 t208)) (fun _ hk => hk.2) (.int .u64 t209)) (fun _ hk => ⟨hk.1.1, hk.1.2⟩)⟩, ⟨by (with_reducible repeat (first | apply Kd.R_alloc | apply Kd.R_drewN | apply Kd.R_drew)); exact Kd.R_mono (Kd.R_far (p := ⟨gb203, 3, none⟩) (Kd.R_far (p := ⟨gb203, 2, none⟩) (Kd.R_far (p := ⟨gb203, 1, none⟩) (Kd.R_far (p := ⟨gb203, 0, none⟩) (Kd.R_types HO_4.out BK203.out (by decide)) (fun _ hk => hk.2) (.int .i64 x8_4)) (fun _ hk => hk.2) (.int .i64 x9_5)) (fun _ hk => hk.2) (.int .u64 t208)) (fun _ hk => hk.2) (.int .u64 t209)) (fun _ hk => hk.1)⟩, ⟨by (with_reducible repeat (first | refine blk_drewN ?_ _ | refine blk_drew ?_ | refine blk_alloc ?_ _)); refine blk_put (cs := #[.int .i64 x8_4, .int .i64 x9_5, .int .u64 t208, .int .u64 x204003_5]) ?_ 3 _ rfl; (with_reducible repeat (first | refine blk_drewN ?_ _ | refine blk_drew ?_ | refine blk_alloc ?_ _)); refine blk_put (cs := #[.int .i64 x8_4, .int .i64 x9_5, .int .u64 x204002_5, .int .u64 x204003_5]) ?_ 2 _ rfl; (with_reducible repeat (first | refine blk_drewN ?_ _ | refine blk_drew ?_ | refine blk_alloc ?_ _)); refine blk_put (cs := #[.int .i64 x8_4, .int .i64 x204001_5, .int .u64 x204002_5, .int .u64 x204003_5]) ?_ 1 _ rfl; (with_reducible repeat (first | refine blk_drewN ?_ _ | refine blk_drew ?_ | refine blk_alloc ?_ _)); refine blk_put (cs := #[.int .i64 x204000_5, .int .i64 x204001_5, .int .u64 x204002_5, .int .u64 x204003_5]) ?_ 0 _ rfl; (with_reducible repeat (first | refine blk_drewN ?_ _ | refine blk_drew ?_ | refine blk_alloc ?_ _)); exact BK203.out⟩, ⟨by repeat (first | (with_reducible first | exact HB.out | apply below_alloc | apply pw_below_drewN | apply below_drew1 | refine below_set ?_ GE203.out) | exact HB.out)⟩⟩
                                                    · replace c42 := Bool.eq_false_iff.mpr c42
                                                      subst c42
                                                      have H1 : (croftlaw42_SpanRoads.l3 k5 x0_3 t196 x4_3 x6_3 x8_4 (wrap64 (x9_5 + 1)) x204000_5 x204001_5 x204002_5 x204003_5) = some r := by rw [if_neg (show ¬ (false = true) by decide)] at H; exact H
                                                      clear H
                                                      have H := H1
                                                      clear H1
                                                      have H' := Aside0.mk H
                                                      clear H
                                                      have p204 : 0 ≤ (x8_4 : Int) := of_decide_eq_true (by first | (with_reducible assumption) | assumption)
                                                      have q204 : x8_4 < (x0_3.length : Int) := of_decide_eq_true (by first | (with_reducible assumption) | assumption)
                                                      obtain ⟨ad204, e204, hx204_0, hx204_1, hx204_2, hx204_3⟩ := at_T36 (Kd.V_reads' HO_0.out).2.2 x8_4 p204 q204
                                                      cases e204
                                                      replace p204 := eq_true p204
                                                      replace q204 := eq_true q204
                                                      have p205 : 0 ≤ (x8_4 : Int) := of_decide_eq_true (by first | (with_reducible assumption) | assumption)
                                                      have q205 : x8_4 < (x0_3.length : Int) := of_decide_eq_true (by first | (with_reducible assumption) | assumption)
                                                      obtain ⟨ad205, e205, hx205_0, hx205_1, hx205_2, hx205_3⟩ := at_T36 (Kd.V_reads' HO_0.out).2.2 x8_4 p205 q205
                                                      obtain rfl : ad204 = ad205 := (by injection e205)
                                                      replace p205 := eq_true p205
                                                      replace q205 := eq_true q205
                                                      have p206 : 0 ≤ (x9_5 : Int) := of_decide_eq_true (by first | (with_reducible assumption) | assumption)
                                                      have q206 : x9_5 < (x0_3.length : Int) := of_decide_eq_true (by first | (with_reducible assumption) | assumption)
                                                      obtain ⟨ad206, e206, hx206_0, hx206_1, hx206_2, hx206_3⟩ := at_T36 (Kd.V_reads' HO_0.out).2.2 x9_5 p206 q206
                                                      obtain rfl : ad204 = ad206 := (by injection e206)
                                                      replace p206 := eq_true p206
                                                      replace q206 := eq_true q206
                                                      have p207 : 0 ≤ (x9_5 : Int) := of_decide_eq_true (by first | (with_reducible assumption) | assumption)
                                                      have q207 : x9_5 < (x0_3.length : Int) := of_decide_eq_true (by first | (with_reducible assumption) | assumption)
                                                      obtain ⟨ad207, e207, hx207_0, hx207_1, hx207_2, hx207_3⟩ := at_T36 (Kd.V_reads' HO_0.out).2.2 x9_5 p207 q207
                                                      obtain rfl : ad204 = ad207 := (by injection e207)
                                                      replace p207 := eq_true p207
                                                      replace q207 := eq_true q207
                                                      go_wp2_with (first | (go_at_call 8; (with_reducible refine (croftref03_Between.calls ((rd_T36 x0_3 x8_4).f1) ((rd_T36 x0_3 x8_4).f2) ((rd_T36 x0_3 x9_5).f1) ((rd_T36 x0_3 x9_5).f2) t208 t209 _ A33.out).mono ?_); rintro e w' ⟨rfl, ⟨nd, rfl⟩⟩; (try first | exact ⟨rfl, _, World.drewN_drewN _ _ _⟩ | exact ⟨rfl, _, Eq.trans (World.drewN_drewN _ _ _) (congrArg (World.drewN _) (Nat.add_assoc _ _ _))⟩); obtain ⟨Ao45, co45, eo45⟩ := Kd.R_slice HO_4.out; subst eo45; have p210 : 0 ≤ (x8_4 : Int) := of_decide_eq_true (by first | (with_reducible assumption) | assumption); have q210 : x8_4 < (x4_3.length : Int) := of_decide_eq_true (by first | (with_reducible assumption) | assumption); obtain ⟨ad210, e210, hx210_0⟩ := Kd.at_int (Kd.R_reads' HO_4.out).2.2 x8_4 p210 q210; cases e210; replace p210 := eq_true p210; replace q210 := eq_true q210; have p211 : 0 ≤ (x9_5 : Int) := of_decide_eq_true (by first | (with_reducible assumption) | assumption); have q211 : x9_5 < (x4_3.length : Int) := of_decide_eq_true (by first | (with_reducible assumption) | assumption); obtain ⟨ad211, e211, hx211_0⟩ := Kd.at_int (Kd.R_reads' HO_4.out).2.2 x9_5 p211 q211; obtain rfl : ad210 = ad211 := (by injection e211); replace p211 := eq_true p211; replace q211 := eq_true q211; have hcz46_0 : wr.cell? ⟨gb203, 0, none⟩ = some (.int .i64 x204000_5) := (blk_cell BK203.out 0).trans rfl; have hcz46_1 : wr.cell? ⟨gb203, 1, none⟩ = some (.int .i64 x204001_5) := (blk_cell BK203.out 1).trans rfl; have hcz46_2 : wr.cell? ⟨gb203, 2, none⟩ = some (.int .u64 x204002_5) := (blk_cell BK203.out 2).trans rfl; have hcz46_3 : wr.cell? ⟨gb203, 3, none⟩ = some (.int .u64 x204003_5) := (blk_cell BK203.out 3).trans rfl; have hfz46_0 := blk_frozen BK203.out 0; have hfz46_1 := blk_frozen BK203.out 1; have hfz46_2 := blk_frozen BK203.out 2; have hfz46_3 := blk_frozen BK203.out 3) | (go_at_call 9; (with_reducible refine (croftref03_Less.calls t208 t209 x204002_5 x204003_5 false _ A41.out).mono ?_); rintro e w' ⟨rfl, ⟨nd, rfl⟩⟩; (try first | exact ⟨rfl, _, World.drewN_drewN _ _ _⟩ | exact ⟨rfl, _, Eq.trans (World.drewN_drewN _ _ _) (congrArg (World.drewN _) (Nat.add_assoc _ _ _))⟩)))
                                                      repeat (go_quiet (first | (go_at_call 8; (with_reducible refine (croftref03_Between.calls ((rd_T36 x0_3 x8_4).f1) ((rd_T36 x0_3 x8_4).f2) ((rd_T36 x0_3 x9_5).f1) ((rd_T36 x0_3 x9_5).f2) t208 t209 _ A33.out).mono ?_); rintro e w' ⟨rfl, ⟨nd, rfl⟩⟩; (try first | exact ⟨rfl, _, World.drewN_drewN _ _ _⟩ | exact ⟨rfl, _, Eq.trans (World.drewN_drewN _ _ _) (congrArg (World.drewN _) (Nat.add_assoc _ _ _))⟩); obtain ⟨Ao45, co45, eo45⟩ := Kd.R_slice HO_4.out; subst eo45; have p210 : 0 ≤ (x8_4 : Int) := of_decide_eq_true (by first | (with_reducible assumption) | assumption); have q210 : x8_4 < (x4_3.length : Int) := of_decide_eq_true (by first | (with_reducible assumption) | assumption); obtain ⟨ad210, e210, hx210_0⟩ := Kd.at_int (Kd.R_reads' HO_4.out).2.2 x8_4 p210 q210; cases e210; replace p210 := eq_true p210; replace q210 := eq_true q210; have p211 : 0 ≤ (x9_5 : Int) := of_decide_eq_true (by first | (with_reducible assumption) | assumption); have q211 : x9_5 < (x4_3.length : Int) := of_decide_eq_true (by first | (with_reducible assumption) | assumption); obtain ⟨ad211, e211, hx211_0⟩ := Kd.at_int (Kd.R_reads' HO_4.out).2.2 x9_5 p211 q211; obtain rfl : ad210 = ad211 := (by injection e211); replace p211 := eq_true p211; replace q211 := eq_true q211; have hcz46_0 : wr.cell? ⟨gb203, 0, none⟩ = some (.int .i64 x204000_5) := (blk_cell BK203.out 0).trans rfl; have hcz46_1 : wr.cell? ⟨gb203, 1, none⟩ = some (.int .i64 x204001_5) := (blk_cell BK203.out 1).trans rfl; have hcz46_2 : wr.cell? ⟨gb203, 2, none⟩ = some (.int .u64 x204002_5) := (blk_cell BK203.out 2).trans rfl; have hcz46_3 : wr.cell? ⟨gb203, 3, none⟩ = some (.int .u64 x204003_5) := (blk_cell BK203.out 3).trans rfl; have hfz46_0 := blk_frozen BK203.out 0; have hfz46_1 := blk_frozen BK203.out 1; have hfz46_2 := blk_frozen BK203.out 2; have hfz46_3 := blk_frozen BK203.out 3) | (go_at_call 9; (with_reducible refine (croftref03_Less.calls t208 t209 x204002_5 x204003_5 false _ A41.out).mono ?_); rintro e w' ⟨rfl, ⟨nd, rfl⟩⟩; (try first | exact ⟨rfl, _, World.drewN_drewN _ _ _⟩ | exact ⟨rfl, _, Eq.trans (World.drewN_drewN _ _ _) (congrArg (World.drewN _) (Nat.add_assoc _ _ _))⟩))); try go_wp2_with (first | (go_at_call 8; (with_reducible refine (croftref03_Between.calls ((rd_T36 x0_3 x8_4).f1) ((rd_T36 x0_3 x8_4).f2) ((rd_T36 x0_3 x9_5).f1) ((rd_T36 x0_3 x9_5).f2) t208 t209 _ A33.out).mono ?_); rintro e w' ⟨rfl, ⟨nd, rfl⟩⟩; (try first | exact ⟨rfl, _, World.drewN_drewN _ _ _⟩ | exact ⟨rfl, _, Eq.trans (World.drewN_drewN _ _ _) (congrArg (World.drewN _) (Nat.add_assoc _ _ _))⟩); obtain ⟨Ao45, co45, eo45⟩ := Kd.R_slice HO_4.out; subst eo45; have p210 : 0 ≤ (x8_4 : Int) := of_decide_eq_true (by first | (with_reducible assumption) | assumption); have q210 : x8_4 < (x4_3.length : Int) := of_decide_eq_true (by first | (with_reducible assumption) | assumption); obtain ⟨ad210, e210, hx210_0⟩ := Kd.at_int (Kd.R_reads' HO_4.out).2.2 x8_4 p210 q210; cases e210; replace p210 := eq_true p210; replace q210 := eq_true q210; have p211 : 0 ≤ (x9_5 : Int) := of_decide_eq_true (by first | (with_reducible assumption) | assumption); have q211 : x9_5 < (x4_3.length : Int) := of_decide_eq_true (by first | (with_reducible assumption) | assumption); obtain ⟨ad211, e211, hx211_0⟩ := Kd.at_int (Kd.R_reads' HO_4.out).2.2 x9_5 p211 q211; obtain rfl : ad210 = ad211 := (by injection e211); replace p211 := eq_true p211; replace q211 := eq_true q211; have hcz46_0 : wr.cell? ⟨gb203, 0, none⟩ = some (.int .i64 x204000_5) := (blk_cell BK203.out 0).trans rfl; have hcz46_1 : wr.cell? ⟨gb203, 1, none⟩ = some (.int .i64 x204001_5) := (blk_cell BK203.out 1).trans rfl; have hcz46_2 : wr.cell? ⟨gb203, 2, none⟩ = some (.int .u64 x204002_5) := (blk_cell BK203.out 2).trans rfl; have hcz46_3 : wr.cell? ⟨gb203, 3, none⟩ = some (.int .u64 x204003_5) := (blk_cell BK203.out 3).trans rfl; have hfz46_0 := blk_frozen BK203.out 0; have hfz46_1 := blk_frozen BK203.out 1; have hfz46_2 := blk_frozen BK203.out 2; have hfz46_3 := blk_frozen BK203.out 3) | (go_at_call 9; (with_reducible refine (croftref03_Less.calls t208 t209 x204002_5 x204003_5 false _ A41.out).mono ?_); rintro e w' ⟨rfl, ⟨nd, rfl⟩⟩; (try first | exact ⟨rfl, _, World.drewN_drewN _ _ _⟩ | exact ⟨rfl, _, Eq.trans (World.drewN_drewN _ _ _) (congrArg (World.drewN _) (Nat.add_assoc _ _ _))⟩))))
                                                      go_roundg k5
                                                      case measure => have := HJ3.out; have := HK2.out; have := HK3.out; have := HK4.out; have := HK5.out; omega
                                                      case rel => exact ⟨(wrap64 (x9_5 + 1)), (x204000_5), (x204001_5), (x204002_5), (x204003_5), (by first | rfl | (simp; done) | (simp [*]; done)), H', ⟨by have := HJ3.out; have := HK2.out; have := HK3.out; have := HK4.out; have := HK5.out; omega⟩, ⟨by (with_reducible repeat (first | apply Kd.V_alloc | apply Kd.V_drewN | apply Kd.V_drew)); exact HO_0.out⟩, ⟨by (with_reducible repeat (first | apply Kd.R_alloc | apply Kd.R_drewN | apply Kd.R_drew)); exact HO_3.out⟩, ⟨by (with_reducible repeat (first | apply Kd.R_alloc | apply Kd.R_drewN | apply Kd.R_drew)); exact HO_4.out⟩, ⟨by (with_reducible repeat (first | refine blk_drewN ?_ _ | refine blk_drew ?_ | refine blk_alloc ?_ _)); exact BK203.out⟩, ⟨by repeat (first | (with_reducible first | exact HB.out | apply below_alloc | apply pw_below_drewN | apply below_drew1 | refine below_set ?_ GE203.out) | exact HB.out)⟩⟩
                                              · rw [if_neg c35] at H
                                                exact absurd H (by simp)
                                            · rw [if_neg c34] at H
                                              exact absurd H (by simp)
                                          · rw [if_neg c32] at H
                                            exact absurd H (by simp)
                                        · rw [if_neg c31] at H
                                          exact absurd H (by simp)
                                      · rw [if_neg c30] at H
                                        exact absurd H (by simp)
                                    · rw [if_neg c29] at H
                                      have c29b0 : decide (x9_5 < (x0_3.length : Int)) = false := decide_eq_false c29
                                      clear c29
                                      have H' := Aside0.mk H
                                      clear H
                                      go_wp2
                                      repeat (go_quiet (fail); try go_wp2)
                                      go_roundg k5
                                      case measure => have := HJ3.out; have := HK2.out; have := HK3.out; have := HK4.out; have := HK5.out; omega
                                      case rel => exact ⟨(wrap64 (x8_4 + 1)), (x204000_5), (x204001_5), (x204002_5), (x204003_5), (by first | rfl | (simp; done) | (simp [*]; done)), H', ⟨by have := HJ3.out; have := HK2.out; have := HK3.out; have := HK4.out; have := HK5.out; omega⟩, ⟨by (with_reducible repeat (first | apply Kd.V_alloc | apply Kd.V_drewN | apply Kd.V_drew)); exact HO_0.out⟩, ⟨by (with_reducible repeat (first | apply Kd.R_alloc | apply Kd.R_drewN | apply Kd.R_drew)); exact HO_3.out⟩, ⟨by (with_reducible repeat (first | apply Kd.R_alloc | apply Kd.R_drewN | apply Kd.R_drew)); exact HO_4.out⟩, ⟨by (with_reducible repeat (first | refine blk_drewN ?_ _ | refine blk_drew ?_ | refine blk_alloc ?_ _)); exact BK203.out⟩, ⟨by repeat (first | (with_reducible first | exact HB.out | apply below_alloc | apply pw_below_drewN | apply below_drew1 | refine below_set ?_ GE203.out) | exact HB.out)⟩⟩
                              · rw [if_neg c28] at H
                                have c28b0 : decide (x8_4 < (x0_3.length : Int)) = false := decide_eq_false c28
                                clear c28
                                by_cases c47 : 0 ≤ x6_3
                                · rw [if_pos c47] at H
                                  have c47b0 : decide (0 ≤ x6_3) = true := decide_eq_true c47
                                  clear c47
                                  by_cases c48 : x6_3 < (t196.length : Int)
                                  · rw [if_pos c48] at H
                                    have c48b0 : decide (x6_3 < (t196.length : Int)) = true := decide_eq_true c48
                                    clear c48
                                    by_cases c49 : (!(((rd_T31 t196 x6_3).f0) == x204000_4) || (!(((rd_T31 t196 x6_3).f1) == x204001_4) || ((!(((rd_T31 t196 x6_3).f2.f0) == x204002_4) || (!(((rd_T31 t196 x6_3).f2.f1) == x204003_4)))))) = true
                                    · rw [if_pos c49] at H
                                      have c49b0 : (!(((rd_T31 t196 x6_3).f0) == x204000_4) || (!(((rd_T31 t196 x6_3).f1) == x204001_4) || ((!(((rd_T31 t196 x6_3).f2.f0) == x204002_4) || (!(((rd_T31 t196 x6_3).f2.f1) == x204003_4)))))) = true := c49
                                      clear c49
                                      obtain rfl := Option.some.inj H
                                      have p213 : 0 ≤ (x6_3 : Int) := of_decide_eq_true (by first | (with_reducible assumption) | assumption)
                                      have q213 : x6_3 < (t196.length : Int) := of_decide_eq_true (by first | (with_reducible assumption) | assumption)
                                      obtain ⟨ad213, e213, hx213_0, hx213_1, hx213_2, hx213_3⟩ := at_T31 (Kd.R_reads' HO_3.out).2.2 x6_3 p213 q213
                                      cases e213
                                      replace p213 := eq_true p213
                                      replace q213 := eq_true q213
                                      have hcz50_0 : wr.cell? ⟨gb203, 0, none⟩ = some (.int .i64 x204000_4) := (blk_cell BK203.out 0).trans rfl
                                      have hcz50_1 : wr.cell? ⟨gb203, 1, none⟩ = some (.int .i64 x204001_4) := (blk_cell BK203.out 1).trans rfl
                                      have hcz50_2 : wr.cell? ⟨gb203, 2, none⟩ = some (.int .u64 x204002_4) := (blk_cell BK203.out 2).trans rfl
                                      have hcz50_3 : wr.cell? ⟨gb203, 3, none⟩ = some (.int .u64 x204003_4) := (blk_cell BK203.out 3).trans rfl
                                      have hfz50_0 := blk_frozen BK203.out 0
                                      have hfz50_1 := blk_frozen BK203.out 1
                                      have hfz50_2 := blk_frozen BK203.out 2
                                      have hfz50_3 := blk_frozen BK203.out 3
                                      go_wp2
                                      repeat (go_quiet (fail); try go_wp2)
                                      go_ret
                                      exact ⟨by first | rfl | (simp [errW_none, errW_some] <;> rfl) | (simp only [← hji22]; first | rfl | (simp [errW_none, errW_some] <;> rfl)) | (simp [*, errW_none, errW_some] <;> rfl), by repeat (first | (with_reducible first | exact HB.out | apply below_alloc | apply pw_below_drewN | apply below_drew1 | refine below_set ?_ GE203.out) | exact HB.out)⟩
                                    · rw [if_neg c49] at H
                                      have c49b0 : (!(((rd_T31 t196 x6_3).f0) == x204000_4) || (!(((rd_T31 t196 x6_3).f1) == x204001_4) || ((!(((rd_T31 t196 x6_3).f2.f0) == x204002_4) || (!(((rd_T31 t196 x6_3).f2.f1) == x204003_4)))))) = false := by simpa using c49
                                      clear c49
                                      by_cases c51 : 0 ≤ x204000_4
                                      · rw [if_pos c51] at H
                                        have c51b0 : decide (0 ≤ x204000_4) = true := decide_eq_true c51
                                        clear c51
                                        by_cases c52 : x204000_4 < (x4_3.length : Int)
                                        · rw [if_pos c52] at H
                                          have c52b0 : decide (x204000_4 < (x4_3.length : Int)) = true := decide_eq_true c52
                                          clear c52
                                          by_cases c53 : 0 ≤ x204001_4
                                          · rw [if_pos c53] at H
                                            have c53b0 : decide (0 ≤ x204001_4) = true := decide_eq_true c53
                                            clear c53
                                            by_cases c54 : x204001_4 < (x4_3.length : Int)
                                            · rw [if_pos c54] at H
                                              have c54b0 : decide (x204001_4 < (x4_3.length : Int)) = true := decide_eq_true c54
                                              clear c54
                                              have H' := Aside0.mk H
                                              clear H
                                              have p213 : 0 ≤ (x6_3 : Int) := of_decide_eq_true (by first | (with_reducible assumption) | assumption)
                                              have q213 : x6_3 < (t196.length : Int) := of_decide_eq_true (by first | (with_reducible assumption) | assumption)
                                              obtain ⟨ad213, e213, hx213_0, hx213_1, hx213_2, hx213_3⟩ := at_T31 (Kd.R_reads' HO_3.out).2.2 x6_3 p213 q213
                                              cases e213
                                              replace p213 := eq_true p213
                                              replace q213 := eq_true q213
                                              have hcz55_0 : wr.cell? ⟨gb203, 0, none⟩ = some (.int .i64 x204000_4) := (blk_cell BK203.out 0).trans rfl
                                              have hcz55_1 : wr.cell? ⟨gb203, 1, none⟩ = some (.int .i64 x204001_4) := (blk_cell BK203.out 1).trans rfl
                                              have hcz55_2 : wr.cell? ⟨gb203, 2, none⟩ = some (.int .u64 x204002_4) := (blk_cell BK203.out 2).trans rfl
                                              have hcz55_3 : wr.cell? ⟨gb203, 3, none⟩ = some (.int .u64 x204003_4) := (blk_cell BK203.out 3).trans rfl
                                              have hfz55_0 := blk_frozen BK203.out 0
                                              have hfz55_1 := blk_frozen BK203.out 1
                                              have hfz55_2 := blk_frozen BK203.out 2
                                              have hfz55_3 := blk_frozen BK203.out 3
                                              obtain ⟨Ao56, co56, eo56⟩ := Kd.R_slice HO_4.out
                                              subst eo56
                                              have p214 : 0 ≤ (x204000_4 : Int) := of_decide_eq_true (by first | (with_reducible assumption) | assumption)
                                              have q214 : x204000_4 < (x4_3.length : Int) := of_decide_eq_true (by first | (with_reducible assumption) | assumption)
                                              obtain ⟨ad214, e214, hx214_0⟩ := Kd.at_int (Kd.R_reads' HO_4.out).2.2 x204000_4 p214 q214
                                              cases e214
                                              replace p214 := eq_true p214
                                              replace q214 := eq_true q214
                                              have p215 : 0 ≤ (x204001_4 : Int) := of_decide_eq_true (by first | (with_reducible assumption) | assumption)
                                              have q215 : x204001_4 < (x4_3.length : Int) := of_decide_eq_true (by first | (with_reducible assumption) | assumption)
                                              obtain ⟨ad215, e215, hx215_0⟩ := Kd.at_int (Kd.R_reads' HO_4.out).2.2 x204001_4 p215 q215
                                              obtain rfl : ad214 = ad215 := (by injection e215)
                                              replace p215 := eq_true p215
                                              replace q215 := eq_true q215
                                              go_wp2
                                              repeat (go_quiet (fail); try go_wp2)
                                              (try generalize Addr.add ad214 ((x204000_4 : Int).toNat) = ga214)
                                              (try generalize Addr.add ad215 ((x204000_4 : Int).toNat) = ga214)
                                              (try generalize Addr.add ad214 ((x204001_4 : Int).toNat) = ga215)
                                              (try generalize Addr.add ad215 ((x204001_4 : Int).toNat) = ga215)
                                              go_loopg [14] k4 (fun kq v14 w' => ∃ (x4_5 : List Int) (x14_5 : Int), v14 = .int .i64 x14_5 ∧ Aside0 (croftlaw42_SpanRoads.l4 kq x0_3 t196 x4_5 x6_3 (rd x4_3 x204000_4) (rd x4_3 x204001_4) x14_5 = some r) ∧ Aside0 (kq ≤ k4) ∧ Aside0 (Kd.V k36 36 w' w.heap.size (fun k_ => (P0_ k_ ∨ w.heap.size ≤ k_) ∧ some k_ ≠ ((.slice (some ad213) t196.length co24) : Value).ownBlock ∧ some k_ ≠ ((.slice (some ad214) x4_3.length co56) : Value).ownBlock ∧ k_ ≠ gb203) (.slice Ao12 x0_3.length co12) x0_3) ∧ Aside0 (Kd.R k31 31 w' w.heap.size (fun k_ => (w.heap.size ≤ k_) ∧ k_ ≠ gb203) (.slice (some ad213) t196.length co24) t196) ∧ Aside0 (Kd.R (Kd.int .i64) 3 w' w.heap.size (fun k_ => (w.heap.size ≤ k_)) (.slice (some ad214) x4_3.length co56) x4_5) ∧ Aside0 (w'.heap[gb203]? = some (.cells #[.int .i64 x204000_4, .int .i64 x204001_4, .int .u64 x204002_4, .int .u64 x204003_4] 31 (0, 0))) ∧ Aside0 (Below w.heap.size w w'))
                                              case atStart => exact ⟨(x4_3), (0), (by first | rfl | (simp; done) | (simp [*]; done)), H', ⟨Nat.le_refl _⟩, ⟨by (with_reducible repeat (first | apply Kd.V_alloc | apply Kd.V_drewN | apply Kd.V_drew)); exact HO_0.out⟩, ⟨by (with_reducible repeat (first | apply Kd.R_alloc | apply Kd.R_drewN | apply Kd.R_drew)); exact HO_3.out⟩, ⟨by (with_reducible repeat (first | apply Kd.R_alloc | apply Kd.R_drewN | apply Kd.R_drew)); exact HO_4.out⟩, ⟨by (with_reducible repeat (first | refine blk_drewN ?_ _ | refine blk_drew ?_ | refine blk_alloc ?_ _)); exact BK203.out⟩, ⟨by repeat (first | (with_reducible first | exact HB.out | apply below_alloc | apply pw_below_drewN | apply below_drew1 | refine below_set ?_ GE203.out) | exact HB.out)⟩⟩
                                              case round =>
                                                clear H'
                                                try clear c1
                                                try clear p1
                                                try clear q1
                                                try clear hx1
                                                try clear hf1
                                                try clear c2
                                                try clear p2
                                                try clear q2
                                                try clear hx2
                                                try clear c3
                                                try clear c4
                                                try clear c5
                                                try clear c6
                                                try clear c6b0
                                                try clear c6b1
                                                try clear p6
                                                try clear c7
                                                try clear c7b0
                                                try clear c7b1
                                                try clear q8
                                                try clear c10
                                                try clear c10b0
                                                try clear c10b1
                                                try clear c11
                                                try clear c11b0
                                                try clear c11b1
                                                try clear c16
                                                try clear c16b0
                                                try clear c17
                                                try clear c17b0
                                                try clear c18
                                                try clear c18b0
                                                try clear p19
                                                try clear q19
                                                try clear hx19
                                                try clear hf19
                                                try clear p20
                                                try clear q20
                                                try clear hx20
                                                try clear p21
                                                try clear q21
                                                try clear hx21
                                                try clear c23
                                                try clear c23b0
                                                try clear c23b1
                                                try clear c25
                                                try clear c25b0
                                                try clear c28
                                                try clear c28b0
                                                try clear c29
                                                try clear c29b0
                                                try clear c30
                                                try clear c30b0
                                                try clear c31
                                                try clear c31b0
                                                try clear c32
                                                try clear c32b0
                                                try clear c34
                                                try clear c34b0
                                                try clear c35
                                                try clear c35b0
                                                try clear c36
                                                try clear c36b0
                                                try clear c36b1
                                                try clear c38
                                                try clear c38b0
                                                try clear c42
                                                try clear c47
                                                try clear c47b0
                                                try clear c48
                                                try clear c48b0
                                                try clear c49
                                                try clear c49b0
                                                try clear c51
                                                try clear c51b0
                                                try clear c52
                                                try clear c52b0
                                                try clear c53
                                                try clear c53b0
                                                try clear c54
                                                try clear c54b0
                                                try clear hcz27_0
                                                try clear hcz27_1
                                                try clear hcz27_2
                                                try clear hcz27_3
                                                try clear hcz40_0
                                                try clear hcz40_1
                                                try clear hcz40_2
                                                try clear hcz40_3
                                                try clear hcz44_0
                                                try clear hcz44_1
                                                try clear hcz44_2
                                                try clear hcz44_3
                                                try clear hcz46_0
                                                try clear hcz46_1
                                                try clear hcz46_2
                                                try clear hcz46_3
                                                try clear hcz50_0
                                                try clear hcz50_1
                                                try clear hcz50_2
                                                try clear hcz50_3
                                                try clear hcz55_0
                                                try clear hcz55_1
                                                try clear hcz55_2
                                                try clear hcz55_3
                                                try clear hfz27_0
                                                try clear hfz27_1
                                                try clear hfz27_2
                                                try clear hfz27_3
                                                try clear hfz40_0
                                                try clear hfz40_1
                                                try clear hfz40_2
                                                try clear hfz40_3
                                                try clear hfz44_0
                                                try clear hfz44_1
                                                try clear hfz44_2
                                                try clear hfz44_3
                                                try clear hfz46_0
                                                try clear hfz46_1
                                                try clear hfz46_2
                                                try clear hfz46_3
                                                try clear hfz50_0
                                                try clear hfz50_1
                                                try clear hfz50_2
                                                try clear hfz50_3
                                                try clear hfz55_0
                                                try clear hfz55_1
                                                try clear hfz55_2
                                                try clear hfz55_3
                                                try clear hx19_0
                                                try clear hx204_0
                                                try clear hx204_1
                                                try clear hx204_2
                                                try clear hx204_3
                                                try clear hx205_0
                                                try clear hx205_1
                                                try clear hx205_2
                                                try clear hx205_3
                                                try clear hx206_0
                                                try clear hx206_1
                                                try clear hx206_2
                                                try clear hx206_3
                                                try clear hx207_0
                                                try clear hx207_1
                                                try clear hx207_2
                                                try clear hx207_3
                                                try clear hx210_0
                                                try clear hx211_0
                                                try clear hx213_0
                                                try clear hx213_1
                                                try clear hx213_2
                                                try clear hx213_3
                                                try clear hx214_0
                                                try clear hx215_0
                                                try clear p1
                                                try clear p19
                                                try clear p2
                                                try clear p204
                                                try clear p205
                                                try clear p206
                                                try clear p207
                                                try clear p210
                                                try clear p211
                                                try clear p213
                                                try clear p214
                                                try clear p215
                                                try clear p6
                                                try clear q1
                                                try clear q19
                                                try clear q204
                                                try clear q205
                                                try clear q206
                                                try clear q207
                                                try clear q210
                                                try clear q211
                                                try clear q213
                                                try clear q214
                                                try clear q215
                                                try clear q8
                                                obtain ⟨x4_5, x14_5, rfl, HA, HK5, HO_0, HO_3, HO_4, BK203, HB⟩ := hrel
                                                have hl4_5 := (Kd.R_reads' HO_4.out).1
                                                rw [hl4_5] at HO_4
                                                (try simp only [hl4_5])
                                                (try simp only [hl4_5] at BK203)
                                                (try simp only [hl4_5] at HO_0)
                                                (try simp only [hl4_5] at HO_3)
                                                cases gk with
                                                | zero => exact absurd HA.out (by simp [croftlaw42_SpanRoads.l4])
                                                | succ k5 =>
                                                  have H := HA.out
                                                  clear HA
                                                  simp only [croftlaw42_SpanRoads.l4] at H
                                                  by_cases c57 : x14_5 < (x0_3.length : Int)
                                                  · rw [if_pos c57] at H
                                                    have c57b0 : decide (x14_5 < (x0_3.length : Int)) = true := decide_eq_true c57
                                                    (try simp only [hl4_5] at c57b0)
                                                    clear c57
                                                    by_cases c58 : 0 ≤ x14_5
                                                    · rw [if_pos c58] at H
                                                      have c58b0 : decide (0 ≤ x14_5) = true := decide_eq_true c58
                                                      clear c58
                                                      by_cases c59 : x14_5 < (x4_5.length : Int)
                                                      · rw [if_pos c59] at H
                                                        have c59b0 : decide (x14_5 < (x4_5.length : Int)) = true := decide_eq_true c59
                                                        (try simp only [hl4_5] at c59b0)
                                                        clear c59
                                                        by_cases c60 : (rd x4_5 x14_5) = (rd x4_3 x204001_4)
                                                        · rw [if_pos c60] at H
                                                          have c60b0 : ((rd x4_5 x14_5) == (rd x4_3 x204001_4)) = true := beq_iff_eq.mpr c60
                                                          have c60b1 : ((rd x4_5 x14_5) != (rd x4_3 x204001_4)) = false := bne_eq_false_iff_eq.mpr c60
                                                          clear c60
                                                          obtain ⟨y217, hy217⟩ : ∃ y_ : List Int, y_ = (x4_5.set (x14_5 : Int).toNat (rd x4_3 x204000_4)) := ⟨_, rfl⟩
                                                          replace H : (croftlaw42_SpanRoads.l4 k5 x0_3 t196 y217 x6_3 (rd x4_3 x204000_4) (rd x4_3 x204001_4) (wrap64 (x14_5 + 1))) = some r := by first | (rw [hy217]; with_reducible exact H) | (have H2_ := (Option.bind_some _ _).symm.trans H; rw [hy217]; with_reducible exact H2_) | (have H2_ := (Option.bind_some _ _).symm.trans H; with_reducible exact H2_) | with_reducible exact H | (rw [hy217]; exact H) | exact H
                                                          have Ny217 := Aside0.mk hy217
                                                          clear hy217
                                                          have H' := Aside0.mk H
                                                          clear H
                                                          have p216 : 0 ≤ (x14_5 : Int) := of_decide_eq_true (by first | (with_reducible assumption) | assumption)
                                                          have q216 : x14_5 < (x4_5.length : Int) := of_decide_eq_true (by first | (with_reducible assumption) | assumption)
                                                          obtain ⟨ad216, e216, hx216_0⟩ := Kd.at_int (Kd.R_reads' HO_4.out).2.2 x14_5 p216 q216
                                                          obtain rfl : ad214 = ad216 := (by injection e216)
                                                          replace p216 := eq_true p216
                                                          replace q216 := eq_true q216
                                                          have p61 : 0 ≤ (x14_5 : Int) := of_decide_eq_true (by first | (with_reducible assumption) | assumption)
                                                          have q61 : (x14_5 : Int) < ((x4_5.length : Int) : Int) := of_decide_eq_true (by first | (with_reducible assumption) | assumption)
                                                          obtain ⟨go61, co61, eo61, gb61, gl61, cl61, HG61⟩ := Kd.R_form HO_4.out (by omega)
                                                          (first | cases eo61 | (injection eo61 with ea_ en_ ec_; (first | subst ea_ | (injection ea_ with ea_; subst ea_)); subst ec_; clear en_))
                                                          have GB61 := Aside0.mk gb61
                                                          have GG61 := Aside0.mk HG61
                                                          clear gb61 gl61 HG61
                                                          (first | simp only [add_plain] at hx214_0 | skip)
                                                          (first | simp only [add_plain] at hx215_0 | skip)
                                                          (first | simp only [add_plain] at hx216_0 | skip)
                                                          obtain ⟨hx61_0, hf61_0⟩ := Kd.R_celln 0 HO_4.out (x14_5 : Int) p61 q61
                                                          replace p61 := eq_true p61
                                                          replace q61 := eq_true q61
                                                          have HP62 := Kd.R_putg HO_4.out (x14_5 : Int) (rd x4_3 x204000_4)
                                                          go_wp2_with (first | ((with_reducible refine gate_store (t := 3) (p := 151) rfl ?_); (try (rw [drewN_self wr]; generalize hq_ : World.drewN wr _ = wr; have n0_ := Aside0.mk (Kd.V_at hq_ HO_0.out); have n1_ := Aside0.mk (Kd.R_at hq_ HO_3.out); have n2_ := Aside0.mk (Kd.R_at hq_ HO_4.out); have n3_ := Aside0.mk (blk_at hq_ BK203.out); have n4_ := Aside0.mk (below_at hq_ HB.out); clear hq_ HO_0 HO_3 HO_4 BK203 HB; have HO_0 := n0_; have HO_3 := n1_; have HO_4 := n2_; have BK203 := n3_; have HB := n4_; clear n0_ n1_ n2_ n3_ n4_; (try (have HP62 := Kd.R_putg HO_4.out (x14_5 : Int) (rd x4_3 x204000_4))))); refine store_event (t := 3) (p := 151) (v := ?vo_w63) (w1 := (wr.setCell ⟨go61, (x14_5 : Int).toNat, none⟩ (.int .i64 (rd x4_3 x204000_4)))) ?hg ?ho ?hn ?hr ?_; (case ho => rfl); (case hg => rfl); (case hn => rfl); (case hr => first | (go_simp; done) | (go_simp; rfl)); intro w63 hw; have hg : wr.grownBy w63 (some go61) := (by rw [hw]; exact HP62.2); have hp_ : Kd.R (Kd.int .i64) 3 w63 w.heap.size (fun k_ => (w.heap.size ≤ k_)) (.slice (some ⟨go61, 0, none⟩) x4_5.length co56) y217 := (by rw [hw, Ny217.out]; exact HP62.1); clear HP62; have n0_ := Aside0.mk (Kd.V_afterv (v := (.slice (some ⟨go61, 0, none⟩) x4_5.length co56)) (v1 := (.slice (some ⟨go61, 0, none⟩) x4_5.length co56)) (ok := (fun k_ => (P0_ k_ ∨ w.heap.size ≤ k_) ∧ some k_ ≠ (.slice (some ad213) t196.length co24 : Value).ownBlock ∧ k_ ≠ gb203)) (by (with_reducible repeat (first | apply Kd.V_alloc | apply Kd.V_drewN | apply Kd.V_drew)); exact Kd.V_mono HO_0.out (fun _ hk => ⟨⟨hk.1, ⟨hk.2.1, hk.2.2.2⟩⟩, hk.2.2.1⟩)) hg (.inl rfl)); have n1_ := Aside0.mk (Kd.R_over' (v := (.slice (some ⟨go61, 0, none⟩) x4_5.length co56)) (by (with_reducible repeat (first | apply Kd.R_alloc | apply Kd.R_drewN | apply Kd.R_drew)); exact HO_3.out) (Kd.R_typed HO_4.out) (by decide) hg); have n2_ := Aside0.mk (hp_); have n3_ := Aside0.mk (blk_grown (g := gb203) (o := .cells #[.int .i64 x204000_4, .int .i64 x204001_4, .int .u64 x204002_4, .int .u64 x204003_4] 31 (0, 0)) (by (with_reducible repeat (first | refine blk_drewN ?_ _ | refine blk_drew ?_ | refine blk_alloc ?_ _)); exact BK203.out) hg (Kd.R_ne HO_4.out BK203.out (by decide))); have n4_ := Aside0.mk ((by rw [hw]; exact below_set (HB.out) GB61.out : Below w.heap.size w w63)); clear HO_0; clear HO_3; clear HO_4; clear BK203; clear HB; have HO_0 := n0_; have HO_3 := n1_; have HO_4 := n2_; have BK203 := n3_; have HB := n4_; clear n0_ n1_ n2_ n3_ n4_; clear hg hw hp_))
                                                          repeat (go_quiet (first | ((with_reducible refine gate_store (t := 3) (p := 151) rfl ?_); (try (rw [drewN_self wr]; generalize hq_ : World.drewN wr _ = wr; have n0_ := Aside0.mk (Kd.V_at hq_ HO_0.out); have n1_ := Aside0.mk (Kd.R_at hq_ HO_3.out); have n2_ := Aside0.mk (Kd.R_at hq_ HO_4.out); have n3_ := Aside0.mk (blk_at hq_ BK203.out); have n4_ := Aside0.mk (below_at hq_ HB.out); clear hq_ HO_0 HO_3 HO_4 BK203 HB; have HO_0 := n0_; have HO_3 := n1_; have HO_4 := n2_; have BK203 := n3_; have HB := n4_; clear n0_ n1_ n2_ n3_ n4_; (try (have HP62 := Kd.R_putg HO_4.out (x14_5 : Int) (rd x4_3 x204000_4))))); refine store_event (t := 3) (p := 151) (v := ?vo_w63) (w1 := (wr.setCell ⟨go61, (x14_5 : Int).toNat, none⟩ (.int .i64 (rd x4_3 x204000_4)))) ?hg ?ho ?hn ?hr ?_; (case ho => rfl); (case hg => rfl); (case hn => rfl); (case hr => first | (go_simp; done) | (go_simp; rfl)); intro w63 hw; have hg : wr.grownBy w63 (some go61) := (by rw [hw]; exact HP62.2); have hp_ : Kd.R (Kd.int .i64) 3 w63 w.heap.size (fun k_ => (w.heap.size ≤ k_)) (.slice (some ⟨go61, 0, none⟩) x4_5.length co56) y217 := (by rw [hw, Ny217.out]; exact HP62.1); clear HP62; have n0_ := Aside0.mk (Kd.V_afterv (v := (.slice (some ⟨go61, 0, none⟩) x4_5.length co56)) (v1 := (.slice (some ⟨go61, 0, none⟩) x4_5.length co56)) (ok := (fun k_ => (P0_ k_ ∨ w.heap.size ≤ k_) ∧ some k_ ≠ (.slice (some ad213) t196.length co24 : Value).ownBlock ∧ k_ ≠ gb203)) (by (with_reducible repeat (first | apply Kd.V_alloc | apply Kd.V_drewN | apply Kd.V_drew)); exact Kd.V_mono HO_0.out (fun _ hk => ⟨⟨hk.1, ⟨hk.2.1, hk.2.2.2⟩⟩, hk.2.2.1⟩)) hg (.inl rfl)); have n1_ := Aside0.mk (Kd.R_over' (v := (.slice (some ⟨go61, 0, none⟩) x4_5.length co56)) (by (with_reducible repeat (first | apply Kd.R_alloc | apply Kd.R_drewN | apply Kd.R_drew)); exact HO_3.out) (Kd.R_typed HO_4.out) (by decide) hg); have n2_ := Aside0.mk (hp_); have n3_ := Aside0.mk (blk_grown (g := gb203) (o := .cells #[.int .i64 x204000_4, .int .i64 x204001_4, .int .u64 x204002_4, .int .u64 x204003_4] 31 (0, 0)) (by (with_reducible repeat (first | refine blk_drewN ?_ _ | refine blk_drew ?_ | refine blk_alloc ?_ _)); exact BK203.out) hg (Kd.R_ne HO_4.out BK203.out (by decide))); have n4_ := Aside0.mk ((by rw [hw]; exact below_set (HB.out) GB61.out : Below w.heap.size w w63)); clear HO_0; clear HO_3; clear HO_4; clear BK203; clear HB; have HO_0 := n0_; have HO_3 := n1_; have HO_4 := n2_; have BK203 := n3_; have HB := n4_; clear n0_ n1_ n2_ n3_ n4_; clear hg hw hp_)); try go_wp2_with (first | ((with_reducible refine gate_store (t := 3) (p := 151) rfl ?_); (try (rw [drewN_self wr]; generalize hq_ : World.drewN wr _ = wr; have n0_ := Aside0.mk (Kd.V_at hq_ HO_0.out); have n1_ := Aside0.mk (Kd.R_at hq_ HO_3.out); have n2_ := Aside0.mk (Kd.R_at hq_ HO_4.out); have n3_ := Aside0.mk (blk_at hq_ BK203.out); have n4_ := Aside0.mk (below_at hq_ HB.out); clear hq_ HO_0 HO_3 HO_4 BK203 HB; have HO_0 := n0_; have HO_3 := n1_; have HO_4 := n2_; have BK203 := n3_; have HB := n4_; clear n0_ n1_ n2_ n3_ n4_; (try (have HP62 := Kd.R_putg HO_4.out (x14_5 : Int) (rd x4_3 x204000_4))))); refine store_event (t := 3) (p := 151) (v := ?vo_w63) (w1 := (wr.setCell ⟨go61, (x14_5 : Int).toNat, none⟩ (.int .i64 (rd x4_3 x204000_4)))) ?hg ?ho ?hn ?hr ?_; (case ho => rfl); (case hg => rfl); (case hn => rfl); (case hr => first | (go_simp; done) | (go_simp; rfl)); intro w63 hw; have hg : wr.grownBy w63 (some go61) := (by rw [hw]; exact HP62.2); have hp_ : Kd.R (Kd.int .i64) 3 w63 w.heap.size (fun k_ => (w.heap.size ≤ k_)) (.slice (some ⟨go61, 0, none⟩) x4_5.length co56) y217 := (by rw [hw, Ny217.out]; exact HP62.1); clear HP62; have n0_ := Aside0.mk (Kd.V_afterv (v := (.slice (some ⟨go61, 0, none⟩) x4_5.length co56)) (v1 := (.slice (some ⟨go61, 0, none⟩) x4_5.length co56)) (ok := (fun k_ => (P0_ k_ ∨ w.heap.size ≤ k_) ∧ some k_ ≠ (.slice (some ad213) t196.length co24 : Value).ownBlock ∧ k_ ≠ gb203)) (by (with_reducible repeat (first | apply Kd.V_alloc | apply Kd.V_drewN | apply Kd.V_drew)); exact Kd.V_mono HO_0.out (fun _ hk => ⟨⟨hk.1, ⟨hk.2.1, hk.2.2.2⟩⟩, hk.2.2.1⟩)) hg (.inl rfl)); have n1_ := Aside0.mk (Kd.R_over' (v := (.slice (some ⟨go61, 0, none⟩) x4_5.length co56)) (by (with_reducible repeat (first | apply Kd.R_alloc | apply Kd.R_drewN | apply Kd.R_drew)); exact HO_3.out) (Kd.R_typed HO_4.out) (by decide) hg); have n2_ := Aside0.mk (hp_); have n3_ := Aside0.mk (blk_grown (g := gb203) (o := .cells #[.int .i64 x204000_4, .int .i64 x204001_4, .int .u64 x204002_4, .int .u64 x204003_4] 31 (0, 0)) (by (with_reducible repeat (first | refine blk_drewN ?_ _ | refine blk_drew ?_ | refine blk_alloc ?_ _)); exact BK203.out) hg (Kd.R_ne HO_4.out BK203.out (by decide))); have n4_ := Aside0.mk ((by rw [hw]; exact below_set (HB.out) GB61.out : Below w.heap.size w w63)); clear HO_0; clear HO_3; clear HO_4; clear BK203; clear HB; have HO_0 := n0_; have HO_3 := n1_; have HO_4 := n2_; have BK203 := n3_; have HB := n4_; clear n0_ n1_ n2_ n3_ n4_; clear hg hw hp_)))
                                                          (try simp only [← hl4_5])
                                                          go_roundg k5
                                                          case measure => have := HJ3.out; have := HK2.out; have := HK3.out; have := HK4.out; have := HK5.out; omega
                                                          case rel => exact ⟨(y217), (wrap64 (x14_5 + 1)), (by first | rfl | (simp; done) | (simp [*]; done)), H', ⟨by have := HJ3.out; have := HK2.out; have := HK3.out; have := HK4.out; have := HK5.out; omega⟩, ⟨by (try simp only [hl4_5]); (with_reducible repeat (first | apply Kd.V_alloc | apply Kd.V_drewN | apply Kd.V_drew)); exact Kd.V_mono HO_0.out (fun _ hk => ⟨hk.1.1, ⟨hk.1.2.1, ⟨hk.2, hk.1.2.2⟩⟩⟩)⟩, ⟨by (try simp only [hl4_5]); (with_reducible repeat (first | apply Kd.R_alloc | apply Kd.R_drewN | apply Kd.R_drew)); exact HO_3.out⟩, ⟨by (try simp only [hl4_5]); (with_reducible repeat (first | apply Kd.R_alloc | apply Kd.R_drewN | apply Kd.R_drew)); exact HO_4.out⟩, ⟨by (try simp only [hl4_5]); (with_reducible repeat (first | refine blk_drewN ?_ _ | refine blk_drew ?_ | refine blk_alloc ?_ _)); exact BK203.out⟩, ⟨by repeat (first | (with_reducible first | exact HB.out | apply below_alloc | apply pw_below_drewN | apply below_drew1 | refine below_set ?_ GE203.out) | exact HB.out)⟩⟩
                                                        · rw [if_neg c60] at H
                                                          have c60b0 : ((rd x4_5 x14_5) == (rd x4_3 x204001_4)) = false := beq_eq_false_iff_ne.mpr c60
                                                          have c60b1 : ((rd x4_5 x14_5) != (rd x4_3 x204001_4)) = true := bne_iff_ne.mpr c60
                                                          have H' := Aside0.mk H
                                                          clear H
                                                          have p216 : 0 ≤ (x14_5 : Int) := of_decide_eq_true (by first | (with_reducible assumption) | assumption)
                                                          have q216 : x14_5 < (x4_5.length : Int) := of_decide_eq_true (by first | (with_reducible assumption) | assumption)
                                                          obtain ⟨ad216, e216, hx216_0⟩ := Kd.at_int (Kd.R_reads' HO_4.out).2.2 x14_5 p216 q216
                                                          obtain rfl : ad214 = ad216 := (by injection e216)
                                                          replace p216 := eq_true p216
                                                          replace q216 := eq_true q216
                                                          go_wp2
                                                          repeat (go_quiet (fail); try go_wp2)
                                                          (try simp only [← hl4_5])
                                                          go_roundg k5
                                                          case measure => have := HJ3.out; have := HK2.out; have := HK3.out; have := HK4.out; have := HK5.out; omega
                                                          case rel => exact ⟨(x4_5), (wrap64 (x14_5 + 1)), (by first | rfl | (simp; done) | (simp [*]; done)), H', ⟨by have := HJ3.out; have := HK2.out; have := HK3.out; have := HK4.out; have := HK5.out; omega⟩, ⟨by (try simp only [hl4_5]); (with_reducible repeat (first | apply Kd.V_alloc | apply Kd.V_drewN | apply Kd.V_drew)); exact HO_0.out⟩, ⟨by (try simp only [hl4_5]); (with_reducible repeat (first | apply Kd.R_alloc | apply Kd.R_drewN | apply Kd.R_drew)); exact HO_3.out⟩, ⟨by (try simp only [hl4_5]); (with_reducible repeat (first | apply Kd.R_alloc | apply Kd.R_drewN | apply Kd.R_drew)); exact HO_4.out⟩, ⟨by (try simp only [hl4_5]); (with_reducible repeat (first | refine blk_drewN ?_ _ | refine blk_drew ?_ | refine blk_alloc ?_ _)); exact BK203.out⟩, ⟨by repeat (first | (with_reducible first | exact HB.out | apply below_alloc | apply pw_below_drewN | apply below_drew1 | refine below_set ?_ GE203.out) | exact HB.out)⟩⟩
                                                      · rw [if_neg c59] at H
                                                        exact absurd H (by simp)
                                                    · rw [if_neg c58] at H
                                                      exact absurd H (by simp)
                                                  · rw [if_neg c57] at H
                                                    have c57b0 : decide (x14_5 < (x0_3.length : Int)) = false := decide_eq_false c57
                                                    (try simp only [hl4_5] at c57b0)
                                                    clear c57
                                                    have H' := Aside0.mk H
                                                    clear H
                                                    go_wp2
                                                    repeat (go_quiet (fail); try go_wp2)
                                                    (try simp only [← hl4_5])
                                                    go_roundg k5
                                                    case measure => have := HJ3.out; have := HK2.out; have := HK3.out; have := HK4.out; have := HK5.out; omega
                                                    case rel => exact ⟨(x4_5), (wrap64 (x6_3 + 1)), (by first | rfl | (simp; done) | (simp [*]; done)), H', ⟨by have := HJ3.out; have := HK2.out; have := HK3.out; have := HK4.out; have := HK5.out; omega⟩, ⟨by (try simp only [hl4_5]); (with_reducible repeat (first | apply Kd.V_alloc | apply Kd.V_drewN | apply Kd.V_drew)); exact Kd.V_mono HO_0.out (fun _ hk => ⟨hk.1, ⟨hk.2.1, hk.2.2.1⟩⟩)⟩, ⟨by (try simp only [hl4_5]); (with_reducible repeat (first | apply Kd.R_alloc | apply Kd.R_drewN | apply Kd.R_drew)); exact Kd.R_mono HO_3.out (fun _ hk => hk.1)⟩, ⟨by (try simp only [hl4_5]); (with_reducible repeat (first | apply Kd.R_alloc | apply Kd.R_drewN | apply Kd.R_drew)); exact HO_4.out⟩, ⟨by repeat (first | (with_reducible first | exact HB.out | apply below_alloc | apply pw_below_drewN | apply below_drew1 | refine below_set ?_ GE203.out) | exact HB.out)⟩⟩
                                            · rw [if_neg c54] at H
                                              exact absurd H (by simp)
                                          · rw [if_neg c53] at H
                                            exact absurd H (by simp)
                                        · rw [if_neg c52] at H
                                          exact absurd H (by simp)
                                      · rw [if_neg c51] at H
                                        exact absurd H (by simp)
                                  · rw [if_neg c48] at H
                                    exact absurd H (by simp)
                                · rw [if_neg c47] at H
                                  exact absurd H (by simp)
                        · rw [if_neg c25] at H
                          have c25b0 : decide (x6_3 < (t196.length : Int)) = false := decide_eq_false c25
                          clear c25
                          obtain rfl := Option.some.inj H
                          go_wp2
                          repeat (go_quiet (fail); try go_wp2)
                          go_ret
                          exact ⟨by first | rfl | (simp [errW_none, errW_some] <;> rfl) | (simp only [← hji22]; first | rfl | (simp [errW_none, errW_some] <;> rfl)) | (simp [*, errW_none, errW_some] <;> rfl), by repeat (first | (with_reducible first | exact HB.out | apply below_alloc | apply pw_below_drewN | apply below_drew1) | exact HB.out)⟩
                  · rw [if_neg c23] at H
                    have c23b0 : ((t196.length : Int) == (ji22)) = false := beq_eq_false_iff_ne.mpr c23
                    have c23b1 : ((t196.length : Int) != (ji22)) = true := bne_iff_ne.mpr c23
                    obtain rfl := Option.some.inj H
                    obtain ⟨Ao64, co64, eo64⟩ := Kd.R_slice HO_3.out
                    subst eo64
                    go_wp2
                    repeat (go_quiet (fail); try go_wp2)
                    go_ret
                    exact ⟨by first | rfl | (simp [errW_none, errW_some] <;> rfl) | (simp only [← hji22]; first | rfl | (simp [errW_none, errW_some] <;> rfl)) | (simp [*, errW_none, errW_some] <;> rfl), by repeat (first | (with_reducible first | exact HB.out | apply below_alloc | apply pw_below_drewN | apply below_drew1) | exact HB.out)⟩
          · rw [if_neg c11] at H
            exact absurd H (by simp)
        · rw [if_neg c10] at H
          exact absurd H (by simp)
  · replace c3 := Bool.eq_false_iff.mpr c3
    subst c3
    have H1 : (some false) = some r := by rw [if_neg (show ¬ (false = true) by decide)] at H; exact H
    clear H
    have H := H1
    clear H1
    obtain rfl := Option.some.inj H
    go_enter Try.func3, Try.ntmps3
    go_wp2_with (first | (go_at_call 6; (with_reducible refine (croftlaw42_alive.calls k  false _ A2.out).mono ?_); rintro e w65 ⟨rfl, hb⟩; have n0_ := Aside0.mk (Kd.V_below (by (with_reducible repeat (first | apply Kd.V_alloc | apply Kd.V_drewN | apply Kd.V_drew)); exact HO0.out) hb); have n1_ := Aside0.mk (below_step (by repeat (first | (with_reducible first | exact HB.out | apply below_alloc | apply pw_below_drewN | apply below_drew1) | exact HB.out)) hb); clear HO0; clear HB; have HO0 := n0_; have HB := n1_; clear n0_ n1_; (try clear hb); (try clear hb2); (try clear hk); (try clear hi)))
    repeat (go_quiet (first | (go_at_call 6; (with_reducible refine (croftlaw42_alive.calls k  false _ A2.out).mono ?_); rintro e w65 ⟨rfl, hb⟩; have n0_ := Aside0.mk (Kd.V_below (by (with_reducible repeat (first | apply Kd.V_alloc | apply Kd.V_drewN | apply Kd.V_drew)); exact HO0.out) hb); have n1_ := Aside0.mk (below_step (by repeat (first | (with_reducible first | exact HB.out | apply below_alloc | apply pw_below_drewN | apply below_drew1) | exact HB.out)) hb); clear HO0; clear HB; have HO0 := n0_; have HB := n1_; clear n0_ n1_; (try clear hb); (try clear hb2); (try clear hk); (try clear hi))); try go_wp2_with (first | (go_at_call 6; (with_reducible refine (croftlaw42_alive.calls k  false _ A2.out).mono ?_); rintro e w65 ⟨rfl, hb⟩; have n0_ := Aside0.mk (Kd.V_below (by (with_reducible repeat (first | apply Kd.V_alloc | apply Kd.V_drewN | apply Kd.V_drew)); exact HO0.out) hb); have n1_ := Aside0.mk (below_step (by repeat (first | (with_reducible first | exact HB.out | apply below_alloc | apply pw_below_drewN | apply below_drew1) | exact HB.out)) hb); clear HO0; clear HB; have HO0 := n0_; have HB := n1_; clear n0_ n1_; (try clear hb); (try clear hb2); (try clear hk); (try clear hi))))
    go_ret
    exact ⟨by first | rfl | (simp [errW_none, errW_some] <;> rfl) | (simp [*, errW_none, errW_some] <;> rfl), by repeat (first | (with_reducible first | exact HB.out | apply below_alloc | apply pw_below_drewN | apply below_drew1) | exact HB.out)⟩

end Go.Proofs.Ytjalbacdcfbmgaa.P
