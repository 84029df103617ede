-- Written by xprint.py, a program of this work, round the kit's print.
import Derived.Test.YtjalbacdcfbmgaaPx0
import Derived.Test.YtjalbacdcfbmgaaPx6
import Derived.Test.YtjalbacdcfbmgaaPx11
namespace Go.Proofs.Ytjalbacdcfbmgaa.P
open Go.RowKit Go.Proofs.YtjalbacdcfbmgaaW.PrintWords Go.Proofs.YtjalbacdcfbmgaaW.PrintLast Go.Proofs.YtjalbacdcfbmgaaW.PrintMore
attribute [local go_sem] max2_int min2_int max_two min_two max_three min_three max_four min_four   -- for this text's walks alone
attribute [local go_sem] add64_run carryOk_zero   -- for this text's walks alone
set_option linter.unusedVariables false
set_option linter.unusedSimpArgs false

/-! ### croftlaw42_SpanWays: function 5 -/
mutual
def croftlaw42_SpanWays.j0 : Nat → Int → List (S31) → Int → Int → Option (Bool)
  | 0, _, _, _, _ => none
  | k + 1, x0, x1, x2, x3 => (span_Way.f k x0 x1 x2 x3).bind fun bt298 => (if x2 < 0 then (croftlaw42_SpanWays.j1 k x0 x1 x2 x3 bt298.1 bt298.2 true) else (if x2 ≥ x0 then (croftlaw42_SpanWays.j1 k x0 x1 x2 x3 bt298.1 bt298.2 true) else (if x3 < 0 then (croftlaw42_SpanWays.j1 k x0 x1 x2 x3 bt298.1 bt298.2 true) else (croftlaw42_SpanWays.j1 k x0 x1 x2 x3 bt298.1 bt298.2 (decide (x3 ≥ x0))))))
def croftlaw42_SpanWays.j1 : Nat → Int → List (S31) → Int → Int → List Int → Bool → Bool → Option (Bool)
  | 0, _, _, _, _, _, _, _ => none
  | k + 1, x0, x1, x2, x3, x9, x10, x53 => if x53 = true then (if x10 = true then (some false) else (some ((x9.length : Int) == 0))) else (if 0 ≤ x0 then (if (x0 : Int).toNat ≤ 35184372088832 then (croftlaw42_SpanWays.l0 k x0 x1 x2 x3 x9 x10 (List.replicate (x0 : Int).toNat 0) 0) else (none)) else (none))
def croftlaw42_SpanWays.l0 : Nat → Int → List (S31) → Int → Int → List Int → Bool → List Int → Int → Option (Bool)
  | 0, _, _, _, _, _, _, _, _ => none
  | k + 1, x0, x1, x2, x3, x9, x10, x11, x12 => if x12 < x0 then (if 0 ≤ x12 then (if x12 < (x11.length : Int) then (croftlaw42_SpanWays.l0 k x0 x1 x2 x3 x9 x10 (x11.set (x12 : Int).toNat 99) (wrap64 (x12 + 1))) else (none)) else (none)) else (if 0 ≤ x3 then (if x3 < (x11.length : Int) then (croftlaw42_SpanWays.l1 k x0 x1 x2 x3 x9 x10 (x11.set (x3 : Int).toNat 0) 0) else (none)) else (none))
def croftlaw42_SpanWays.l1 : Nat → Int → List (S31) → Int → Int → List Int → Bool → List Int → Int → Option (Bool)
  | 0, _, _, _, _, _, _, _, _ => none
  | k + 1, x0, x1, x2, x3, x9, x10, x11, x13 => if x13 < x0 then (croftlaw42_SpanWays.l2 k x0 x1 x2 x3 x9 x10 x11 x13 0) else (if 0 ≤ x2 then (if x2 < (x11.length : Int) then (if (rd x11 x2) = 99 then (if x10 = true then (some false) else (some ((x9.length : Int) == 0))) else (croftlaw42_SpanWays.l4 k x0 x1 x2 x3 x9 x10 x11 x2 0)) else (none)) else (none))
def croftlaw42_SpanWays.l2 : Nat → Int → List (S31) → Int → Int → List Int → Bool → List Int → Int → Int → Option (Bool)
  | 0, _, _, _, _, _, _, _, _, _ => none
  | k + 1, x0, x1, x2, x3, x9, x10, x11, x13, x14 => if x14 < x0 then (croftlaw42_SpanWays.l3 k x0 x1 x2 x3 x9 x10 x11 x13 x14 0) else (croftlaw42_SpanWays.l1 k x0 x1 x2 x3 x9 x10 x11 (wrap64 (x13 + 1)))
def croftlaw42_SpanWays.l3 : Nat → Int → List (S31) → Int → Int → List Int → Bool → List Int → Int → Int → Int → Option (Bool)
  | 0, _, _, _, _, _, _, _, _, _, _ => none
  | k + 1, x0, x1, x2, x3, x9, x10, x11, x13, x14, x15 => if x15 < x0 then (if 0 ≤ x15 then (if x15 < (x11.length : Int) then (if (rd x11 x15) < 99 then ((croftlaw42_joined.f k x1 x14 x15).bind fun t308 => (if t308 = true then (if 0 ≤ x14 then (if x14 < (x11.length : Int) then (croftlaw42_SpanWays.l3 k x0 x1 x2 x3 x9 x10 (x11.set (x14 : Int).toNat (mn (rd x11 x14) (wrap64 ((rd x11 x15) + 1)))) x13 x14 (wrap64 (x15 + 1))) else (none)) else (none)) else (croftlaw42_SpanWays.l3 k x0 x1 x2 x3 x9 x10 x11 x13 x14 (wrap64 (x15 + 1))))) else (croftlaw42_SpanWays.l3 k x0 x1 x2 x3 x9 x10 x11 x13 x14 (wrap64 (x15 + 1)))) else (none)) else (none)) else (croftlaw42_SpanWays.l2 k x0 x1 x2 x3 x9 x10 x11 x13 (wrap64 (x14 + 1)))
def croftlaw42_SpanWays.l4 : Nat → Int → List (S31) → Int → Int → List Int → Bool → List Int → Int → Int → Option (Bool)
  | 0, _, _, _, _, _, _, _, _, _ => none
  | k + 1, x0, x1, x2, x3, x9, x10, x11, x16, x17 => if x17 < (x9.length : Int) then (if 0 ≤ x17 then (if (rd x9 x17) = x16 then (croftlaw42_SpanWays.l5 k x0 x1 x2 x3 x9 x10 x11 x16 x17 (wrap64 (x0 - 1))) else (some false)) else (none)) else (if x10 = true then (if 0 ≤ x2 then (if x2 < (x11.length : Int) then (if (x9.length : Int) = (wrap64 ((rd x11 x2) + 1)) then (if 0 ≤ (wrap64 ((x9.length : Int) - 1)) then (if (wrap64 ((x9.length : Int) - 1)) < (x9.length : Int) then (some ((rd x9 (wrap64 ((x9.length : Int) - 1))) == x3)) else (none)) else (none)) else (some false)) else (none)) else (none)) else (some false))
def croftlaw42_SpanWays.l5 : Nat → Int → List (S31) → Int → Int → List Int → Bool → List Int → Int → Int → Int → Option (Bool)
  | 0, _, _, _, _, _, _, _, _, _, _ => none
  | k + 1, x0, x1, x2, x3, x9, x10, x11, x16, x17, x18 => if x18 ≥ 0 then (if 0 ≤ x17 then (if x17 < (x9.length : Int) then (if 0 ≤ (rd x9 x17) then (if (rd x9 x17) < (x11.length : Int) then (if (rd x11 (rd x9 x17)) > 0 then (if 0 ≤ x18 then (if x18 < (x11.length : Int) then (if (rd x11 x18) = (wrap64 ((rd x11 (rd x9 x17)) - 1)) then ((croftlaw42_joined.f k x1 (rd x9 x17) x18).bind fun t322 => (croftlaw42_SpanWays.j8 k x0 x1 x2 x3 x9 x10 x11 x16 x17 x18 t322)) else (croftlaw42_SpanWays.j8 k x0 x1 x2 x3 x9 x10 x11 x16 x17 x18 false)) else (none)) else (none)) else (croftlaw42_SpanWays.j8 k x0 x1 x2 x3 x9 x10 x11 x16 x17 x18 false)) else (none)) else (none)) else (none)) else (none)) else (croftlaw42_SpanWays.l4 k x0 x1 x2 x3 x9 x10 x11 x16 (wrap64 (x17 + 1)))
def croftlaw42_SpanWays.j8 : Nat → Int → List (S31) → Int → Int → List Int → Bool → List Int → Int → Int → Int → Bool → Option (Bool)
  | 0, _, _, _, _, _, _, _, _, _, _, _ => none
  | k + 1, x0, x1, x2, x3, x9, x10, x11, x16, x17, x18, x175 => if x175 = true then (croftlaw42_SpanWays.l5 k x0 x1 x2 x3 x9 x10 x11 x18 x17 (wrap64 (x18 - 1))) else (croftlaw42_SpanWays.l5 k x0 x1 x2 x3 x9 x10 x11 x16 x17 (wrap64 (x18 - 1)))
end
def croftlaw42_SpanWays.f (k : Nat) (a0 : Int) (l1 : List (S31)) (a2 : Int) (a3 : Int) : Option (Bool) := (croftlaw42_alive.f k).bind fun t292 => (if t292 = true then (if (l1.length : Int) > 20 then (if 20 ≤ (l1.length : Int) then (croftlaw42_SpanWays.j0 k (Int.tmod (wrap64 ((Int.tmod a0 10) + 10)) 10) (l1.take 20) a2 a3) else (none)) else (croftlaw42_SpanWays.j0 k (Int.tmod (wrap64 ((Int.tmod a0 10) + 10)) 10) l1 a2 a3)) else (some false))
theorem croftlaw42_SpanWays.mono_l : ∀ k, (∀ y0 y1 y2 y3, LeO (croftlaw42_SpanWays.j0 k y0 y1 y2 y3) (croftlaw42_SpanWays.j0 (k + 1) y0 y1 y2 y3)) ∧ (∀ y0 y1 y2 y3 y4 y5 y6, LeO (croftlaw42_SpanWays.j1 k y0 y1 y2 y3 y4 y5 y6) (croftlaw42_SpanWays.j1 (k + 1) y0 y1 y2 y3 y4 y5 y6)) ∧ (∀ y0 y1 y2 y3 y4 y5 y6 y7, LeO (croftlaw42_SpanWays.l0 k y0 y1 y2 y3 y4 y5 y6 y7) (croftlaw42_SpanWays.l0 (k + 1) y0 y1 y2 y3 y4 y5 y6 y7)) ∧ (∀ y0 y1 y2 y3 y4 y5 y6 y7, LeO (croftlaw42_SpanWays.l1 k y0 y1 y2 y3 y4 y5 y6 y7) (croftlaw42_SpanWays.l1 (k + 1) y0 y1 y2 y3 y4 y5 y6 y7)) ∧ (∀ y0 y1 y2 y3 y4 y5 y6 y7 y8, LeO (croftlaw42_SpanWays.l2 k y0 y1 y2 y3 y4 y5 y6 y7 y8) (croftlaw42_SpanWays.l2 (k + 1) y0 y1 y2 y3 y4 y5 y6 y7 y8)) ∧ (∀ y0 y1 y2 y3 y4 y5 y6 y7 y8 y9, LeO (croftlaw42_SpanWays.l3 k y0 y1 y2 y3 y4 y5 y6 y7 y8 y9) (croftlaw42_SpanWays.l3 (k + 1) y0 y1 y2 y3 y4 y5 y6 y7 y8 y9)) ∧ (∀ y0 y1 y2 y3 y4 y5 y6 y7 y8, LeO (croftlaw42_SpanWays.l4 k y0 y1 y2 y3 y4 y5 y6 y7 y8) (croftlaw42_SpanWays.l4 (k + 1) y0 y1 y2 y3 y4 y5 y6 y7 y8)) ∧ (∀ y0 y1 y2 y3 y4 y5 y6 y7 y8 y9, LeO (croftlaw42_SpanWays.l5 k y0 y1 y2 y3 y4 y5 y6 y7 y8 y9) (croftlaw42_SpanWays.l5 (k + 1) y0 y1 y2 y3 y4 y5 y6 y7 y8 y9)) ∧ (∀ y0 y1 y2 y3 y4 y5 y6 y7 y8 y9 y10, LeO (croftlaw42_SpanWays.j8 k y0 y1 y2 y3 y4 y5 y6 y7 y8 y9 y10) (croftlaw42_SpanWays.j8 (k + 1) y0 y1 y2 y3 y4 y5 y6 y7 y8 y9 y10))
  | 0 => ⟨fun _ _ _ _ r h => by simp [croftlaw42_SpanWays.j0] at h, fun _ _ _ _ _ _ _ r h => by simp [croftlaw42_SpanWays.j1] at h, fun _ _ _ _ _ _ _ _ r h => by simp [croftlaw42_SpanWays.l0] at h, fun _ _ _ _ _ _ _ _ r h => by simp [croftlaw42_SpanWays.l1] at h, fun _ _ _ _ _ _ _ _ _ r h => by simp [croftlaw42_SpanWays.l2] at h, fun _ _ _ _ _ _ _ _ _ _ r h => by simp [croftlaw42_SpanWays.l3] at h, fun _ _ _ _ _ _ _ _ _ r h => by simp [croftlaw42_SpanWays.l4] at h, fun _ _ _ _ _ _ _ _ _ _ r h => by simp [croftlaw42_SpanWays.l5] at h, fun _ _ _ _ _ _ _ _ _ _ _ r h => by simp [croftlaw42_SpanWays.j8] at h⟩
  | k + 1 => by
    obtain ⟨ih0, ih1, ih2, ih3, ih4, ih5, ih6, ih7, ih8⟩ := croftlaw42_SpanWays.mono_l k; refine ⟨?_, ?_, ?_, ?_, ?_, ?_, ?_, ?_, ?_⟩
    · intro y0 y1 y2 y3
      unfold croftlaw42_SpanWays.j0
      repeat' first
      | (with_reducible exact ih0 _ _ _ _)
      | (with_reducible exact ih1 _ _ _ _ _ _ _)
      | (with_reducible exact ih2 _ _ _ _ _ _ _ _)
      | (with_reducible exact ih3 _ _ _ _ _ _ _ _)
      | (with_reducible exact ih4 _ _ _ _ _ _ _ _ _)
      | (with_reducible exact ih5 _ _ _ _ _ _ _ _ _ _)
      | (with_reducible exact ih6 _ _ _ _ _ _ _ _ _)
      | (with_reducible exact ih7 _ _ _ _ _ _ _ _ _ _)
      | (with_reducible exact ih8 _ _ _ _ _ _ _ _ _ _ _)
      | (with_reducible exact croftlaw42_alive.mono _)
      | (with_reducible exact croftlaw42_joined.mono _ _ _ _)
      | (with_reducible exact span_Way.mono _ _ _ _ _)
      | (with_reducible exact LeO.refl _)
      | (with_reducible exact LeO.none _)
      | (with_reducible refine LeO.ite ?_ ?_)
      | (with_reducible refine LeO.bind ?_ (fun _ => ?_))
      | exact ih0 _ _ _ _
      | exact ih1 _ _ _ _ _ _ _
      | exact ih2 _ _ _ _ _ _ _ _
      | exact ih3 _ _ _ _ _ _ _ _
      | exact ih4 _ _ _ _ _ _ _ _ _
      | exact ih5 _ _ _ _ _ _ _ _ _ _
      | exact ih6 _ _ _ _ _ _ _ _ _
      | exact ih7 _ _ _ _ _ _ _ _ _ _
      | exact ih8 _ _ _ _ _ _ _ _ _ _ _
      | exact croftlaw42_alive.mono _
      | exact croftlaw42_joined.mono _ _ _ _
      | exact span_Way.mono _ _ _ _ _
      | exact LeO.none _
      | refine LeO.ite ?_ ?_
      | refine LeO.bind ?_ (fun _ => ?_)
    · intro y0 y1 y2 y3 y4 y5 y6
      unfold croftlaw42_SpanWays.j1
      repeat' first
      | (with_reducible exact ih0 _ _ _ _)
      | (with_reducible exact ih1 _ _ _ _ _ _ _)
      | (with_reducible exact ih2 _ _ _ _ _ _ _ _)
      | (with_reducible exact ih3 _ _ _ _ _ _ _ _)
      | (with_reducible exact ih4 _ _ _ _ _ _ _ _ _)
      | (with_reducible exact ih5 _ _ _ _ _ _ _ _ _ _)
      | (with_reducible exact ih6 _ _ _ _ _ _ _ _ _)
      | (with_reducible exact ih7 _ _ _ _ _ _ _ _ _ _)
      | (with_reducible exact ih8 _ _ _ _ _ _ _ _ _ _ _)
      | (with_reducible exact croftlaw42_alive.mono _)
      | (with_reducible exact croftlaw42_joined.mono _ _ _ _)
      | (with_reducible exact span_Way.mono _ _ _ _ _)
      | (with_reducible exact LeO.refl _)
      | (with_reducible exact LeO.none _)
      | (with_reducible refine LeO.ite ?_ ?_)
      | (with_reducible refine LeO.bind ?_ (fun _ => ?_))
      | exact ih0 _ _ _ _
      | exact ih1 _ _ _ _ _ _ _
      | exact ih2 _ _ _ _ _ _ _ _
      | exact ih3 _ _ _ _ _ _ _ _
      | exact ih4 _ _ _ _ _ _ _ _ _
      | exact ih5 _ _ _ _ _ _ _ _ _ _
      | exact ih6 _ _ _ _ _ _ _ _ _
      | exact ih7 _ _ _ _ _ _ _ _ _ _
      | exact ih8 _ _ _ _ _ _ _ _ _ _ _
      | exact croftlaw42_alive.mono _
      | exact croftlaw42_joined.mono _ _ _ _
      | exact span_Way.mono _ _ _ _ _
      | exact LeO.none _
      | refine LeO.ite ?_ ?_
      | refine LeO.bind ?_ (fun _ => ?_)
    · intro y0 y1 y2 y3 y4 y5 y6 y7
      unfold croftlaw42_SpanWays.l0
      repeat' first
      | (with_reducible exact ih0 _ _ _ _)
      | (with_reducible exact ih1 _ _ _ _ _ _ _)
      | (with_reducible exact ih2 _ _ _ _ _ _ _ _)
      | (with_reducible exact ih3 _ _ _ _ _ _ _ _)
      | (with_reducible exact ih4 _ _ _ _ _ _ _ _ _)
      | (with_reducible exact ih5 _ _ _ _ _ _ _ _ _ _)
      | (with_reducible exact ih6 _ _ _ _ _ _ _ _ _)
      | (with_reducible exact ih7 _ _ _ _ _ _ _ _ _ _)
      | (with_reducible exact ih8 _ _ _ _ _ _ _ _ _ _ _)
      | (with_reducible exact croftlaw42_alive.mono _)
      | (with_reducible exact croftlaw42_joined.mono _ _ _ _)
      | (with_reducible exact span_Way.mono _ _ _ _ _)
      | (with_reducible exact LeO.refl _)
      | (with_reducible exact LeO.none _)
      | (with_reducible refine LeO.ite ?_ ?_)
      | (with_reducible refine LeO.bind ?_ (fun _ => ?_))
      | exact ih0 _ _ _ _
      | exact ih1 _ _ _ _ _ _ _
      | exact ih2 _ _ _ _ _ _ _ _
      | exact ih3 _ _ _ _ _ _ _ _
      | exact ih4 _ _ _ _ _ _ _ _ _
      | exact ih5 _ _ _ _ _ _ _ _ _ _
      | exact ih6 _ _ _ _ _ _ _ _ _
      | exact ih7 _ _ _ _ _ _ _ _ _ _
      | exact ih8 _ _ _ _ _ _ _ _ _ _ _
      | exact croftlaw42_alive.mono _
      | exact croftlaw42_joined.mono _ _ _ _
      | exact span_Way.mono _ _ _ _ _
      | exact LeO.none _
      | refine LeO.ite ?_ ?_
      | refine LeO.bind ?_ (fun _ => ?_)
    · intro y0 y1 y2 y3 y4 y5 y6 y7
      unfold croftlaw42_SpanWays.l1
      repeat' first
      | (with_reducible exact ih0 _ _ _ _)
      | (with_reducible exact ih1 _ _ _ _ _ _ _)
      | (with_reducible exact ih2 _ _ _ _ _ _ _ _)
      | (with_reducible exact ih3 _ _ _ _ _ _ _ _)
      | (with_reducible exact ih4 _ _ _ _ _ _ _ _ _)
      | (with_reducible exact ih5 _ _ _ _ _ _ _ _ _ _)
      | (with_reducible exact ih6 _ _ _ _ _ _ _ _ _)
      | (with_reducible exact ih7 _ _ _ _ _ _ _ _ _ _)
      | (with_reducible exact ih8 _ _ _ _ _ _ _ _ _ _ _)
      | (with_reducible exact croftlaw42_alive.mono _)
      | (with_reducible exact croftlaw42_joined.mono _ _ _ _)
      | (with_reducible exact span_Way.mono _ _ _ _ _)
      | (with_reducible exact LeO.refl _)
      | (with_reducible exact LeO.none _)
      | (with_reducible refine LeO.ite ?_ ?_)
      | (with_reducible refine LeO.bind ?_ (fun _ => ?_))
      | exact ih0 _ _ _ _
      | exact ih1 _ _ _ _ _ _ _
      | exact ih2 _ _ _ _ _ _ _ _
      | exact ih3 _ _ _ _ _ _ _ _
      | exact ih4 _ _ _ _ _ _ _ _ _
      | exact ih5 _ _ _ _ _ _ _ _ _ _
      | exact ih6 _ _ _ _ _ _ _ _ _
      | exact ih7 _ _ _ _ _ _ _ _ _ _
      | exact ih8 _ _ _ _ _ _ _ _ _ _ _
      | exact croftlaw42_alive.mono _
      | exact croftlaw42_joined.mono _ _ _ _
      | exact span_Way.mono _ _ _ _ _
      | exact LeO.none _
      | refine LeO.ite ?_ ?_
      | refine LeO.bind ?_ (fun _ => ?_)
    · intro y0 y1 y2 y3 y4 y5 y6 y7 y8
      unfold croftlaw42_SpanWays.l2
      repeat' first
      | (with_reducible exact ih0 _ _ _ _)
      | (with_reducible exact ih1 _ _ _ _ _ _ _)
      | (with_reducible exact ih2 _ _ _ _ _ _ _ _)
      | (with_reducible exact ih3 _ _ _ _ _ _ _ _)
      | (with_reducible exact ih4 _ _ _ _ _ _ _ _ _)
      | (with_reducible exact ih5 _ _ _ _ _ _ _ _ _ _)
      | (with_reducible exact ih6 _ _ _ _ _ _ _ _ _)
      | (with_reducible exact ih7 _ _ _ _ _ _ _ _ _ _)
      | (with_reducible exact ih8 _ _ _ _ _ _ _ _ _ _ _)
      | (with_reducible exact croftlaw42_alive.mono _)
      | (with_reducible exact croftlaw42_joined.mono _ _ _ _)
      | (with_reducible exact span_Way.mono _ _ _ _ _)
      | (with_reducible exact LeO.refl _)
      | (with_reducible exact LeO.none _)
      | (with_reducible refine LeO.ite ?_ ?_)
      | (with_reducible refine LeO.bind ?_ (fun _ => ?_))
      | exact ih0 _ _ _ _
      | exact ih1 _ _ _ _ _ _ _
      | exact ih2 _ _ _ _ _ _ _ _
      | exact ih3 _ _ _ _ _ _ _ _
      | exact ih4 _ _ _ _ _ _ _ _ _
      | exact ih5 _ _ _ _ _ _ _ _ _ _
      | exact ih6 _ _ _ _ _ _ _ _ _
      | exact ih7 _ _ _ _ _ _ _ _ _ _
      | exact ih8 _ _ _ _ _ _ _ _ _ _ _
      | exact croftlaw42_alive.mono _
      | exact croftlaw42_joined.mono _ _ _ _
      | exact span_Way.mono _ _ _ _ _
      | exact LeO.none _
      | refine LeO.ite ?_ ?_
      | refine LeO.bind ?_ (fun _ => ?_)
    · intro y0 y1 y2 y3 y4 y5 y6 y7 y8 y9
      unfold croftlaw42_SpanWays.l3
      repeat' first
      | (with_reducible exact ih0 _ _ _ _)
      | (with_reducible exact ih1 _ _ _ _ _ _ _)
      | (with_reducible exact ih2 _ _ _ _ _ _ _ _)
      | (with_reducible exact ih3 _ _ _ _ _ _ _ _)
      | (with_reducible exact ih4 _ _ _ _ _ _ _ _ _)
      | (with_reducible exact ih5 _ _ _ _ _ _ _ _ _ _)
      | (with_reducible exact ih6 _ _ _ _ _ _ _ _ _)
      | (with_reducible exact ih7 _ _ _ _ _ _ _ _ _ _)
      | (with_reducible exact ih8 _ _ _ _ _ _ _ _ _ _ _)
      | (with_reducible exact croftlaw42_alive.mono _)
      | (with_reducible exact croftlaw42_joined.mono _ _ _ _)
      | (with_reducible exact span_Way.mono _ _ _ _ _)
      | (with_reducible exact LeO.refl _)
      | (with_reducible exact LeO.none _)
      | (with_reducible refine LeO.ite ?_ ?_)
      | (with_reducible refine LeO.bind ?_ (fun _ => ?_))
      | exact ih0 _ _ _ _
      | exact ih1 _ _ _ _ _ _ _
      | exact ih2 _ _ _ _ _ _ _ _
      | exact ih3 _ _ _ _ _ _ _ _
      | exact ih4 _ _ _ _ _ _ _ _ _
      | exact ih5 _ _ _ _ _ _ _ _ _ _
      | exact ih6 _ _ _ _ _ _ _ _ _
      | exact ih7 _ _ _ _ _ _ _ _ _ _
      | exact ih8 _ _ _ _ _ _ _ _ _ _ _
      | exact croftlaw42_alive.mono _
      | exact croftlaw42_joined.mono _ _ _ _
      | exact span_Way.mono _ _ _ _ _
      | exact LeO.none _
      | refine LeO.ite ?_ ?_
      | refine LeO.bind ?_ (fun _ => ?_)
    · intro y0 y1 y2 y3 y4 y5 y6 y7 y8
      unfold croftlaw42_SpanWays.l4
      repeat' first
      | (with_reducible exact ih0 _ _ _ _)
      | (with_reducible exact ih1 _ _ _ _ _ _ _)
      | (with_reducible exact ih2 _ _ _ _ _ _ _ _)
      | (with_reducible exact ih3 _ _ _ _ _ _ _ _)
      | (with_reducible exact ih4 _ _ _ _ _ _ _ _ _)
      | (with_reducible exact ih5 _ _ _ _ _ _ _ _ _ _)
      | (with_reducible exact ih6 _ _ _ _ _ _ _ _ _)
      | (with_reducible exact ih7 _ _ _ _ _ _ _ _ _ _)
      | (with_reducible exact ih8 _ _ _ _ _ _ _ _ _ _ _)
      | (with_reducible exact croftlaw42_alive.mono _)
      | (with_reducible exact croftlaw42_joined.mono _ _ _ _)
      | (with_reducible exact span_Way.mono _ _ _ _ _)
      | (with_reducible exact LeO.refl _)
      | (with_reducible exact LeO.none _)
      | (with_reducible refine LeO.ite ?_ ?_)
      | (with_reducible refine LeO.bind ?_ (fun _ => ?_))
      | exact ih0 _ _ _ _
      | exact ih1 _ _ _ _ _ _ _
      | exact ih2 _ _ _ _ _ _ _ _
      | exact ih3 _ _ _ _ _ _ _ _
      | exact ih4 _ _ _ _ _ _ _ _ _
      | exact ih5 _ _ _ _ _ _ _ _ _ _
      | exact ih6 _ _ _ _ _ _ _ _ _
      | exact ih7 _ _ _ _ _ _ _ _ _ _
      | exact ih8 _ _ _ _ _ _ _ _ _ _ _
      | exact croftlaw42_alive.mono _
      | exact croftlaw42_joined.mono _ _ _ _
      | exact span_Way.mono _ _ _ _ _
      | exact LeO.none _
      | refine LeO.ite ?_ ?_
      | refine LeO.bind ?_ (fun _ => ?_)
    · intro y0 y1 y2 y3 y4 y5 y6 y7 y8 y9
      unfold croftlaw42_SpanWays.l5
      repeat' first
      | (with_reducible exact ih0 _ _ _ _)
      | (with_reducible exact ih1 _ _ _ _ _ _ _)
      | (with_reducible exact ih2 _ _ _ _ _ _ _ _)
      | (with_reducible exact ih3 _ _ _ _ _ _ _ _)
      | (with_reducible exact ih4 _ _ _ _ _ _ _ _ _)
      | (with_reducible exact ih5 _ _ _ _ _ _ _ _ _ _)
      | (with_reducible exact ih6 _ _ _ _ _ _ _ _ _)
      | (with_reducible exact ih7 _ _ _ _ _ _ _ _ _ _)
      | (with_reducible exact ih8 _ _ _ _ _ _ _ _ _ _ _)
      | (with_reducible exact croftlaw42_alive.mono _)
      | (with_reducible exact croftlaw42_joined.mono _ _ _ _)
      | (with_reducible exact span_Way.mono _ _ _ _ _)
      | (with_reducible exact LeO.refl _)
      | (with_reducible exact LeO.none _)
      | (with_reducible refine LeO.ite ?_ ?_)
      | (with_reducible refine LeO.bind ?_ (fun _ => ?_))
      | exact ih0 _ _ _ _
      | exact ih1 _ _ _ _ _ _ _
      | exact ih2 _ _ _ _ _ _ _ _
      | exact ih3 _ _ _ _ _ _ _ _
      | exact ih4 _ _ _ _ _ _ _ _ _
      | exact ih5 _ _ _ _ _ _ _ _ _ _
      | exact ih6 _ _ _ _ _ _ _ _ _
      | exact ih7 _ _ _ _ _ _ _ _ _ _
      | exact ih8 _ _ _ _ _ _ _ _ _ _ _
      | exact croftlaw42_alive.mono _
      | exact croftlaw42_joined.mono _ _ _ _
      | exact span_Way.mono _ _ _ _ _
      | exact LeO.none _
      | refine LeO.ite ?_ ?_
      | refine LeO.bind ?_ (fun _ => ?_)
    · intro y0 y1 y2 y3 y4 y5 y6 y7 y8 y9 y10
      unfold croftlaw42_SpanWays.j8
      repeat' first
      | (with_reducible exact ih0 _ _ _ _)
      | (with_reducible exact ih1 _ _ _ _ _ _ _)
      | (with_reducible exact ih2 _ _ _ _ _ _ _ _)
      | (with_reducible exact ih3 _ _ _ _ _ _ _ _)
      | (with_reducible exact ih4 _ _ _ _ _ _ _ _ _)
      | (with_reducible exact ih5 _ _ _ _ _ _ _ _ _ _)
      | (with_reducible exact ih6 _ _ _ _ _ _ _ _ _)
      | (with_reducible exact ih7 _ _ _ _ _ _ _ _ _ _)
      | (with_reducible exact ih8 _ _ _ _ _ _ _ _ _ _ _)
      | (with_reducible exact croftlaw42_alive.mono _)
      | (with_reducible exact croftlaw42_joined.mono _ _ _ _)
      | (with_reducible exact span_Way.mono _ _ _ _ _)
      | (with_reducible exact LeO.refl _)
      | (with_reducible exact LeO.none _)
      | (with_reducible refine LeO.ite ?_ ?_)
      | (with_reducible refine LeO.bind ?_ (fun _ => ?_))
      | exact ih0 _ _ _ _
      | exact ih1 _ _ _ _ _ _ _
      | exact ih2 _ _ _ _ _ _ _ _
      | exact ih3 _ _ _ _ _ _ _ _
      | exact ih4 _ _ _ _ _ _ _ _ _
      | exact ih5 _ _ _ _ _ _ _ _ _ _
      | exact ih6 _ _ _ _ _ _ _ _ _
      | exact ih7 _ _ _ _ _ _ _ _ _ _
      | exact ih8 _ _ _ _ _ _ _ _ _ _ _
      | exact croftlaw42_alive.mono _
      | exact croftlaw42_joined.mono _ _ _ _
      | exact span_Way.mono _ _ _ _ _
      | exact LeO.none _
      | refine LeO.ite ?_ ?_
      | refine LeO.bind ?_ (fun _ => ?_)
theorem croftlaw42_SpanWays.mono : ∀ a0 a1 a2 a3 k, LeO (croftlaw42_SpanWays.f k a0 a1 a2 a3) (croftlaw42_SpanWays.f (k + 1) a0 a1 a2 a3) := by
  intro a0 a1 a2 a3 k; obtain ⟨ih0, ih1, ih2, ih3, ih4, ih5, ih6, ih7, ih8⟩ := croftlaw42_SpanWays.mono_l k
  unfold croftlaw42_SpanWays.f
  repeat' first
      | (with_reducible exact ih0 _ _ _ _)
      | (with_reducible exact ih1 _ _ _ _ _ _ _)
      | (with_reducible exact ih2 _ _ _ _ _ _ _ _)
      | (with_reducible exact ih3 _ _ _ _ _ _ _ _)
      | (with_reducible exact ih4 _ _ _ _ _ _ _ _ _)
      | (with_reducible exact ih5 _ _ _ _ _ _ _ _ _ _)
      | (with_reducible exact ih6 _ _ _ _ _ _ _ _ _)
      | (with_reducible exact ih7 _ _ _ _ _ _ _ _ _ _)
      | (with_reducible exact ih8 _ _ _ _ _ _ _ _ _ _ _)
      | (with_reducible exact croftlaw42_alive.mono _)
      | (with_reducible exact croftlaw42_joined.mono _ _ _ _)
      | (with_reducible exact span_Way.mono _ _ _ _ _)
      | (with_reducible exact LeO.refl _)
      | (with_reducible exact LeO.none _)
      | (with_reducible refine LeO.ite ?_ ?_)
      | (with_reducible refine LeO.bind ?_ (fun _ => ?_))
      | exact ih0 _ _ _ _
      | exact ih1 _ _ _ _ _ _ _
      | exact ih2 _ _ _ _ _ _ _ _
      | exact ih3 _ _ _ _ _ _ _ _
      | exact ih4 _ _ _ _ _ _ _ _ _
      | exact ih5 _ _ _ _ _ _ _ _ _ _
      | exact ih6 _ _ _ _ _ _ _ _ _
      | exact ih7 _ _ _ _ _ _ _ _ _ _
      | exact ih8 _ _ _ _ _ _ _ _ _ _ _
      | exact croftlaw42_alive.mono _
      | exact croftlaw42_joined.mono _ _ _ _
      | exact span_Way.mono _ _ _ _ _
      | exact LeO.none _
      | refine LeO.ite ?_ ?_
      | refine LeO.bind ?_ (fun _ => ?_)
def croftlaw42_SpanWays.T25 : Bool × List (List Nat × List Nat) := (true, [([], []), ([], []), ([], []), ([], []), ([2, 3], [2, 3]), ([4], [4]), ([], []), ([], []), ([6, 7], [6, 7]), ([8], [8]), ([9], [9]), ([5, 10], [5, 10]), ([0, 1, 0, 1, 2, 3, 4, 5, 6, 7, 8, 9, 10, 11], [0, 1]), ([12, 11, 0, 1, 2, 3, 4, 5, 6, 7, 8, 9, 10, 11], [11, 12])])
def croftlaw42_SpanWays.B25 : List Nat := [0, 0, 0, 0, 12, 28, 0, 0, 192, 448, 960, 2044, 4095, 8191]
theorem croftlaw42_SpanWays.tab25 : rtab .any (opsOf Try.f5 25) = croftlaw42_SpanWays.T25 := by kernel_rfl
theorem croftlaw42_SpanWays.bits25 : waitsOk croftlaw42_SpanWays.T25.2 croftlaw42_SpanWays.B25 = true := by kernel_rfl
def croftlaw42_SpanWays.T37 : Bool × List (List Nat × List Nat) := (true, [([], []), ([], []), ([], []), ([1, 2], [1, 2]), ([3], [3]), ([0, 4], [0, 4]), ([5], [5]), ([6], [6]), ([7], [7]), ([8], [8]), ([8], [8]), ([9, 10, 8], [8, 9, 10]), ([11, 8], [8, 11]), ([8], [8]), ([8], [8]), ([8], [8]), ([14, 15, 8], [8, 14, 15]), ([16, 8], [8, 16]), ([13, 17, 8], [8, 13, 17]), ([18, 8], [8, 18]), ([19, 8], [8, 19]), ([12, 20, 8], [8, 12, 20]), ([8, 21], [8, 21]), ([22, 8], [22]), ([23], [23]), ([23], [23]), ([23], [23]), ([25, 26, 23], [23, 25, 26]), ([27, 23], [23, 27]), ([23], [23]), ([24, 28, 29, 23, 23], [23, 24, 28, 29]), ([23, 30], [23, 30])])
def croftlaw42_SpanWays.B37 : List Nat := [0, 0, 0, 6, 14, 31, 63, 127, 255, 511, 511, 2047, 4095, 511, 511, 511, 49663, 115199, 254463, 516607, 1040895, 2097151, 4194303, 8388607, 16777215, 16777215, 16777215, 117440511, 251658239, 16777215, 1073741823, 2147483647]
theorem croftlaw42_SpanWays.tab37 : rtab .any (opsOf Try.f5 37) = croftlaw42_SpanWays.T37 := by kernel_rfl
theorem croftlaw42_SpanWays.bits37 : waitsOk croftlaw42_SpanWays.T37.2 croftlaw42_SpanWays.B37 = true := by kernel_rfl
set_option maxHeartbeats 8000000 in
set_option maxRecDepth 100000 in
theorem croftlaw42_SpanWays.calls (k : Nat) (a0 : Int) (P1_ : Nat → Prop) (A1 : Option Addr) (c1 : Nat) (l1 : List (S31)) (a2 : Int) (a3 : Int) (r : Bool) (w : World) (hs1 : Kd.V k31 31 w w.heap.size (fun k_ => P1_ k_) (.slice A1 l1.length c1) l1) (h : croftlaw42_SpanWays.f k a0 l1 a2 a3 = some r) :
  Calls Try.prog 5 #[.int .i64 a0, .slice A1 l1.length c1, .int .i64 a2, .int .i64 a3] w fun e w' => e = .returned (.bool r) ∧ Below w.heap.size w w' := by
 have HO1 := Aside0.mk (show Kd.V k31 31 w w.heap.size (fun k_ => (P1_ k_ ∨ w.heap.size ≤ k_)) (.slice A1 l1.length c1) l1 from Kd.V_mono hs1 (fun k_ hk => .inl hk)); have HB := Aside0.mk (Below.refl w.heap.size w); have H : ((croftlaw42_alive.f k).bind fun t292 => (if t292 = true then (if (l1.length : Int) > 20 then (if 20 ≤ (l1.length : Int) then (croftlaw42_SpanWays.j0 k (Int.tmod (wrap64 ((Int.tmod a0 10) + 10)) 10) (l1.take 20) a2 a3) else (none)) else (croftlaw42_SpanWays.j0 k (Int.tmod (wrap64 ((Int.tmod a0 10) + 10)) 10) l1 a2 a3)) else (some false))) = some r := h; clear h; replace H := Option.bind_eq_some_iff.mp H; obtain ⟨t292, A50, H⟩ := H; replace H : (if t292 = true then (if (l1.length : Int) > 20 then (if 20 ≤ (l1.length : Int) then (croftlaw42_SpanWays.j0 k (Int.tmod (wrap64 ((Int.tmod a0 10) + 10)) 10) (l1.take 20) a2 a3) else (none)) else (croftlaw42_SpanWays.j0 k (Int.tmod (wrap64 ((Int.tmod a0 10) + 10)) 10) l1 a2 a3)) else (some false)) = some r := H; have A5 := Aside0.mk A50; clear A50
 by_cases c6 : t292 = true
 ·subst c6
  have H1 : (if (l1.length : Int) > 20 then (if 20 ≤ (l1.length : Int) then (croftlaw42_SpanWays.j0 k (Int.tmod (wrap64 ((Int.tmod a0 10) + 10)) 10) (l1.take 20) a2 a3) else (none)) else (croftlaw42_SpanWays.j0 k (Int.tmod (wrap64 ((Int.tmod a0 10) + 10)) 10) l1 a2 a3)) = some r := by rw [if_pos rfl] at H; exact H
  clear H; have H := H1; clear H1; have HC7 := Aside0.mk H; clear H
  go_enter Try.func5, Try.ntmps5
  go_upto_if 27 with (first | ((with_reducible refine gate_callee (f := 6) rfl ?_); refine goesL_ (some 19) rfl rfl Try.func6 (by kernel_rfl) rfl #[] rfl (by (try simp only [List.map_toArray, List.map_cons, List.map_nil]); first | done | rfl | (simp only [List.length_drop, List.length_take]; rfl)) ?_; (with_reducible refine (croftlaw42_alive.calls k  true _ A5.out).mono ?_); rintro e w8 ⟨rfl, hb⟩; refine ⟨_, rfl, ?_⟩; have n0_ := Aside0.mk (Kd.V_below (by (with_reducible repeat (first | apply Kd.V_alloc | apply Kd.V_drewN | apply Kd.V_drew)); exact HO1.out) hb); have n1_ := Aside0.mk (below_step (by repeat (first | (with_reducible first | exact HB.out | apply below_alloc | apply pw_below_drewN | apply below_drew1) | exact HB.out)) hb); clear HO1; clear HB; have HO1 := n0_; have HB := n1_; clear n0_ n1_; (try clear hb); (try clear hb2); (try clear hk); (try clear hi)))
  (try simp only [Act.put, List.setIfInBounds_toArray, List.set_cons_zero, List.set_cons_succ])
  go_cut [1] (fun v1 wc => ∃ (kq : Nat) (x1_6 : List (S31)), Aside0 (croftlaw42_SpanWays.j0 kq (Int.tmod (wrap64 ((Int.tmod a0 10) + 10)) 10) x1_6 a2 a3 = some r) ∧ Aside0 (kq ≤ k) ∧ Aside0 (Kd.V k31 31 wc w.heap.size (fun k_ => (P1_ k_ ∨ w.heap.size ≤ k_)) v1 x1_6) ∧ Aside0 (Below w.heap.size w wc))
  case first =>
   have H := HC7.out; clear HC7
   by_cases c9 : (l1.length : Int) > 20
   ·rw [if_pos c9] at H; have c9b0 : decide (20 < (l1.length : Int)) = true := decide_eq_true c9; have c9b1 : decide (20 < l1.length) = true := decide_eq_true (by omega); clear c9
    (first | rw [c9b0] | (simp only [i64_w, i32_w]; rw [c9b0]) | skip)
    by_cases c10 : 20 ≤ (l1.length : Int)
    ·rw [if_pos c10] at H; have c10b0 := eq_true c10; have c10b1 : decide (20 ≤ (l1.length : Int)) = true := decide_eq_true c10; clear c10; obtain ⟨y293, hy293⟩ : ∃ y_ : List (S31), y_ = (l1.take 20) := ⟨_, rfl⟩
     replace H : (croftlaw42_SpanWays.j0 k (Int.tmod (wrap64 ((Int.tmod a0 10) + 10)) 10) y293 a2 a3) = some r := by first | (rw [hy293]; with_reducible exact H) | (have H2_ := (Option.bind_some _ _).symm.trans H; rw [hy293]; with_reducible exact H2_) | (have H2_ := (Option.bind_some _ _).symm.trans H; with_reducible exact H2_) | with_reducible exact H | (rw [hy293]; exact H) | exact H
     have Ny293 := Aside0.mk hy293; clear hy293
     as_aux_lemma =>
      have H' := Aside0.mk H; clear H; have q11 : (20 : Int) ≤ ((l1.length : Int) : Int) := of_decide_eq_true (by first | (with_reducible assumption) | assumption); obtain ⟨i011, hi011, _, hsz11, _⟩ := info_parts info31; have hroom11 : l1.length ≤ c1 := (Kd.V_reads' HO1.out).2.1; have hC11 : Kd.F k31 _ _ A1 l1.length l1 := (Kd.V_at (base := w.heap.size) HO1.out).2.2; have hcut11 := cut_to (P := Try.prog) 24 31 .i64 Try.underlying24 hi011 A1 l1.length c1 20 (by omega) q11 hroom11; have hr11 := Kd.F_take (m := 20) hC11 (by omega); have hy11 : y293.length = (20 : Int).toNat := (by rw [Ny293.out, List.length_take]; omega); rw [← Ny293.out] at hr11; rw [← hy11] at hcut11; have HO297 := Aside0.mk (show Kd.V k31 31 _ w.heap.size _ (.slice A1 y293.length c1) y293 from Kd.V_mk (by omega) hr11); have HC297 := Aside0.mk (show y293.length ≤ c1 from by omega); clear hr11 hC11 hroom11 hi011 hsz11; have KY11 := Aside0.mk hy11; clear hy11; replace q11 := eq_true q11; go_wp2
      go_meet
      case rel => exact ⟨_, (y293), H', ⟨by first | omega | exact Nat.le_refl _⟩, ⟨by (with_reducible repeat (first | apply Kd.V_alloc | apply Kd.V_drewN | apply Kd.V_drew)); exact HO297.out⟩, ⟨by repeat (first | (with_reducible first | exact HB.out | apply below_alloc | apply pw_below_drewN | apply below_drew1) | exact HB.out)⟩⟩
    ·rw [if_neg c10] at H; exact absurd H (by simp)
   ·rw [if_neg c9] at H; have c9b0 : decide (20 < (l1.length : Int)) = false := decide_eq_false c9; have c9b1 : decide (20 < l1.length) = false := decide_eq_false (by omega); clear c9
    (first | rw [c9b0] | (simp only [i64_w, i32_w]; rw [c9b0]) | skip)
    as_aux_lemma =>
     have H' := Aside0.mk H; clear H; go_wp2
     go_meet
     case rel => exact ⟨_, (l1), H', ⟨by first | omega | exact Nat.le_refl _⟩, ⟨by (with_reducible repeat (first | apply Kd.V_alloc | apply Kd.V_drewN | apply Kd.V_drew)); exact HO1.out⟩, ⟨by repeat (first | (with_reducible first | exact HB.out | apply below_alloc | apply pw_below_drewN | apply below_drew1) | exact HB.out)⟩⟩
  case rest =>
   clear HC7; (try clear c1); (try clear q1); (try clear p2); (try clear c5); (try clear c6); (try clear p6); (try clear c9); (try clear c9b0); (try clear c9b1); (try clear c10); (try clear c10b0); (try clear c10b1); (try clear q11); (try clear q11); obtain ⟨kq, x1_6, HA, HJ6, HO_1, HB⟩ := hcut
   cases kq with
   | zero => exact absurd HA.out (by simp [croftlaw42_SpanWays.j0])
   | succ kj6 =>
    have H := HA.out; clear HA; simp only [croftlaw42_SpanWays.j0] at H; replace H := Option.bind_eq_some_iff.mp H; obtain ⟨⟨t298, t299⟩, A120, H⟩ := H; replace H : (if a2 < 0 then (croftlaw42_SpanWays.j1 kj6 (Int.tmod (wrap64 ((Int.tmod a0 10) + 10)) 10) x1_6 a2 a3 t298 t299 true) else (if a2 ≥ (Int.tmod (wrap64 ((Int.tmod a0 10) + 10)) 10) then (croftlaw42_SpanWays.j1 kj6 (Int.tmod (wrap64 ((Int.tmod a0 10) + 10)) 10) x1_6 a2 a3 t298 t299 true) else (if a3 < 0 then (croftlaw42_SpanWays.j1 kj6 (Int.tmod (wrap64 ((Int.tmod a0 10) + 10)) 10) x1_6 a2 a3 t298 t299 true) else (croftlaw42_SpanWays.j1 kj6 (Int.tmod (wrap64 ((Int.tmod a0 10) + 10)) 10) x1_6 a2 a3 t298 t299 (decide (a3 ≥ (Int.tmod (wrap64 ((Int.tmod a0 10) + 10)) 10))))))) = some r := H; have A12 := Aside0.mk A120; clear A120; have HC13 := Aside0.mk H; clear H; obtain ⟨Ao14, co14, eo14⟩ := Kd.V_slice HO_1.out; subst eo14
    go_upto_region 7 with (first | ((with_reducible refine gate_callee (f := 12) rfl ?_); refine goesL_ (some 35) rfl rfl Try.func12 (by kernel_rfl) rfl #[.int .i64 (Int.tmod (wrap64 ((Int.tmod a0 10) + 10)) 10), .slice Ao14 x1_6.length co14, .int .i64 a2, .int .i64 a3] rfl (by (try simp only [List.map_toArray, List.map_cons, List.map_nil]); first | done | rfl | (simp only [List.length_drop, List.length_take]; rfl)) ?_; (with_reducible refine (span_Way.calls kj6 (Int.tmod (wrap64 ((Int.tmod a0 10) + 10)) 10) _ _ x1_6 a2 a3 t298 t299 _ ?side1 ?side2 A12.out).mono ?_); (case side1 => repeat (first | exact (Kd.V_reads' HO_1.out).2.2 | (with_reducible refine Kd.C_alloc ?_ _) | (with_reducible refine Kd.C_drewN ?_ _) | (with_reducible refine Kd.C_drew ?_))); (case side2 => exact (Kd.V_reads' HO_1.out).2.1); rintro e w15 ⟨v300, rfl, ho0, hb⟩; refine ⟨_, rfl, ?_⟩; have n0_ := Aside0.mk (Kd.V_elder' (by (with_reducible repeat (first | apply Kd.V_alloc | apply Kd.V_drewN | apply Kd.V_drew)); exact HO_1.out) (Kd.R_base ho0) hb); have n1_ := Aside0.mk (Kd.R_lower (Kd.R_newM (M := fun k_ => (w.heap.size ≤ k_)) ho0 (below_size (by repeat (first | (with_reducible first | exact HB.out | apply below_alloc | apply pw_below_drewN | apply below_drew1) | exact HB.out))) (fun k_ h_ => h_)) (below_size (by repeat (first | (with_reducible first | exact HB.out | apply below_alloc | apply pw_below_drewN | apply below_drew1) | exact HB.out)))); have n2_ := Aside0.mk (below_step (by repeat (first | (with_reducible first | exact HB.out | apply below_alloc | apply pw_below_drewN | apply below_drew1) | exact HB.out)) hb); clear HO_1; clear HB; have HO_1 := n0_; have HO301 := n1_; have HB := n2_; clear n0_ n1_ n2_; (try clear hb); (try clear hb2); (try clear hk); (try clear hi); (try clear ho0)))
    (try simp only [Act.put, List.setIfInBounds_toArray, List.set_cons_zero, List.set_cons_succ])
    go_cut [53] (fun v53 wc => ∃ (kq : Nat) (x53_12 : Bool), v53 = .bool x53_12 ∧ Aside0 (croftlaw42_SpanWays.j1 kq (Int.tmod (wrap64 ((Int.tmod a0 10) + 10)) 10) x1_6 a2 a3 t298 t299 x53_12 = some r) ∧ Aside0 (kq ≤ kj6) ∧ Aside0 (Kd.V k31 31 wc w.heap.size (fun k_ => (P1_ k_ ∨ w.heap.size ≤ k_) ∧ some k_ ≠ (v300 : Value).ownBlock) (.slice Ao14 x1_6.length co14) x1_6) ∧ Aside0 (Kd.R (Kd.int .i64) 3 wc w.heap.size (fun k_ => (w.heap.size ≤ k_)) v300 t298) ∧ Aside0 (Below w.heap.size w wc))
    case first =>
     have H := HC13.out; clear HC13
     by_cases c16 : a2 < 0
     ·rw [if_pos c16] at H; have c16b0 : decide (a2 < 0) = true := decide_eq_true c16; clear c16
      (first | rw [c16b0] | (simp only [i64_w, i32_w]; rw [c16b0]) | skip)
      as_aux_lemma =>
       have H' := Aside0.mk H; clear H; go_wp2
       go_meet
       case rel => exact ⟨_, (true), (by first | rfl | (simp; done) | (simp [*]; done)), H', ⟨by have := HJ6.out; first | omega | exact Nat.le_refl _⟩, ⟨by (with_reducible repeat (first | apply Kd.V_alloc | apply Kd.V_drewN | apply Kd.V_drew)); exact HO_1.out⟩, ⟨by (with_reducible repeat (first | apply Kd.R_alloc | apply Kd.R_drewN | apply Kd.R_drew)); exact Kd.R_mono HO301.out (fun _ hk => hk.1)⟩, ⟨by repeat (first | (with_reducible first | exact HB.out | apply below_alloc | apply pw_below_drewN | apply below_drew1) | exact HB.out)⟩⟩
     ·rw [if_neg c16] at H; have c16b0 : decide (a2 < 0) = false := decide_eq_false c16; clear c16
      (first | rw [c16b0] | (simp only [i64_w, i32_w]; rw [c16b0]) | skip)
      by_cases c17 : a2 ≥ (Int.tmod (wrap64 ((Int.tmod a0 10) + 10)) 10)
      ·rw [if_pos c17] at H; have c17b0 : decide ((Int.tmod (wrap64 ((Int.tmod a0 10) + 10)) 10) ≤ a2) = true := decide_eq_true c17; clear c17
       as_aux_lemma =>
        have H' := Aside0.mk H; clear H; go_wp2
        go_meet
        case rel => exact ⟨_, (true), (by first | rfl | (simp; done) | (simp [*]; done)), H', ⟨by have := HJ6.out; first | omega | exact Nat.le_refl _⟩, ⟨by (with_reducible repeat (first | apply Kd.V_alloc | apply Kd.V_drewN | apply Kd.V_drew)); exact HO_1.out⟩, ⟨by (with_reducible repeat (first | apply Kd.R_alloc | apply Kd.R_drewN | apply Kd.R_drew)); exact Kd.R_mono HO301.out (fun _ hk => hk.1)⟩, ⟨by repeat (first | (with_reducible first | exact HB.out | apply below_alloc | apply pw_below_drewN | apply below_drew1) | exact HB.out)⟩⟩
      ·rw [if_neg c17] at H; have c17b0 : decide ((Int.tmod (wrap64 ((Int.tmod a0 10) + 10)) 10) ≤ a2) = false := decide_eq_false c17; clear c17
       by_cases c18 : a3 < 0
       ·rw [if_pos c18] at H; have c18b0 : decide (a3 < 0) = true := decide_eq_true c18; clear c18
        as_aux_lemma =>
         have H' := Aside0.mk H; clear H; go_wp2
         go_meet
         case rel => exact ⟨_, (true), (by first | rfl | (simp; done) | (simp [*]; done)), H', ⟨by have := HJ6.out; first | omega | exact Nat.le_refl _⟩, ⟨by (with_reducible repeat (first | apply Kd.V_alloc | apply Kd.V_drewN | apply Kd.V_drew)); exact HO_1.out⟩, ⟨by (with_reducible repeat (first | apply Kd.R_alloc | apply Kd.R_drewN | apply Kd.R_drew)); exact Kd.R_mono HO301.out (fun _ hk => hk.1)⟩, ⟨by repeat (first | (with_reducible first | exact HB.out | apply below_alloc | apply pw_below_drewN | apply below_drew1) | exact HB.out)⟩⟩
       ·rw [if_neg c18] at H; have c18b0 : decide (a3 < 0) = false := decide_eq_false c18; clear c18
        as_aux_lemma =>
         have H' := Aside0.mk H; clear H; go_wp2
         go_meet
         case rel => exact ⟨_, (decide (a3 ≥ (Int.tmod (wrap64 ((Int.tmod a0 10) + 10)) 10))), (by first | rfl | (simp; done) | (simp [*]; done)), H', ⟨by have := HJ6.out; first | omega | exact Nat.le_refl _⟩, ⟨by (with_reducible repeat (first | apply Kd.V_alloc | apply Kd.V_drewN | apply Kd.V_drew)); exact HO_1.out⟩, ⟨by (with_reducible repeat (first | apply Kd.R_alloc | apply Kd.R_drewN | apply Kd.R_drew)); exact Kd.R_mono HO301.out (fun _ hk => hk.1)⟩, ⟨by repeat (first | (with_reducible first | exact HB.out | apply below_alloc | apply pw_below_drewN | apply below_drew1) | exact HB.out)⟩⟩
    case rest =>
     clear HC13; (try clear c1); (try clear q1); (try clear p2); (try clear c5); (try clear c6); (try clear p6); (try clear c9); (try clear c9b0); (try clear c9b1); (try clear c10); (try clear c10b0); (try clear c10b1); (try clear q11); (try clear c12); (try clear c16); (try clear c16b0); (try clear c17); (try clear c17b0); (try clear c18); (try clear c18b0); (try clear p2); (try clear p6); (try clear q1); (try clear q11); obtain ⟨kq, x53_12, rfl, HA, HJ12, HO_1, HO_9, HB⟩ := hcut
     cases kq with
     | zero => exact absurd HA.out (by simp [croftlaw42_SpanWays.j1])
     | succ kj12 =>
      have H := HA.out; clear HA; simp only [croftlaw42_SpanWays.j1] at H
      by_cases c19 : x53_12 = true
      ·subst c19
       have H1 : (if t299 = true then (some false) else (some ((t298.length : Int) == 0))) = some r := by rw [if_pos rfl] at H; exact H
       clear H; have H := H1; clear H1
       by_cases c20 : t299 = true
       ·subst c20
        have H1 : (some false) = some r := by rw [if_pos rfl] at H; exact H
        clear H; have H := H1; clear H1
        as_aux_lemma =>
         obtain rfl := Option.some.inj H; go_wp2; go_ret; exact ⟨by first | rfl | (simp [errW_none, errW_some] <;> rfl) | (simp [*, errW_none, errW_some] <;> rfl), by repeat (first | (with_reducible first | exact HB.out | apply below_alloc | apply pw_below_drewN | apply below_drew1) | exact HB.out)⟩
       ·replace c20 := Bool.eq_false_iff.mpr c20; subst c20
        have H1 : (some ((t298.length : Int) == 0)) = some r := by rw [if_neg (show ¬ (false = true) by decide)] at H; exact H
        clear H; have H := H1; clear H1
        as_aux_lemma =>
         obtain rfl := Option.some.inj H; obtain ⟨Ao21, co21, eo21⟩ := Kd.R_slice HO_9.out; subst eo21; go_wp2; go_ret; exact ⟨by first | rfl | (simp [errW_none, errW_some] <;> rfl) | (simp [*, errW_none, errW_some] <;> rfl), by repeat (first | (with_reducible first | exact HB.out | apply below_alloc | apply pw_below_drewN | apply below_drew1) | exact HB.out)⟩
      ·replace c19 := Bool.eq_false_iff.mpr c19; subst c19
       have H1 : (if 0 ≤ (Int.tmod (wrap64 ((Int.tmod a0 10) + 10)) 10) then (if ((Int.tmod (wrap64 ((Int.tmod a0 10) + 10)) 10) : Int).toNat ≤ 35184372088832 then (croftlaw42_SpanWays.l0 kj12 (Int.tmod (wrap64 ((Int.tmod a0 10) + 10)) 10) x1_6 a2 a3 t298 t299 (List.replicate ((Int.tmod (wrap64 ((Int.tmod a0 10) + 10)) 10) : Int).toNat 0) 0) else (none)) else (none)) = some r := by rw [if_neg (show ¬ (false = true) by decide)] at H; exact H
       clear H; have H := H1; clear H1; obtain ⟨ji22, hji22⟩ : ∃ j_ : Int, (Int.tmod (wrap64 ((Int.tmod a0 10) + 10)) 10) = j_ := ⟨_, rfl⟩
       replace H : (if 0 ≤ (ji22) then (if ((ji22) : Int).toNat ≤ 35184372088832 then (croftlaw42_SpanWays.l0 kj12 (ji22) x1_6 a2 a3 t298 t299 (List.replicate ((ji22) : Int).toNat 0) 0) else (none)) else (none)) = some r := by first | (rw [hji22] at H; exact H) | (simp only [hji22] at H ⊢; exact H)
       (try simp only [hji22])
       by_cases c23 : 0 ≤ (ji22)
       ·rw [if_pos c23] at H; have c23b0 := eq_true c23; have c23b1 : decide (0 ≤ (ji22)) = true := decide_eq_true c23; clear c23
        by_cases c24 : ((ji22) : Int).toNat ≤ 35184372088832
        ·rw [if_pos c24] at H; have c24b0 := eq_true c24; have c24b1 : decide (((ji22) : Int).toNat ≤ 35184372088832) = true := decide_eq_true c24; clear c24; obtain ⟨y302, hy302⟩ : ∃ y_ : List Int, y_ = (List.replicate ((ji22) : Int).toNat 0) := ⟨_, rfl⟩
         replace H : (croftlaw42_SpanWays.l0 kj12 (ji22) x1_6 a2 a3 t298 t299 y302 0) = some r := by first | (rw [hy302]; with_reducible exact H) | (have H2_ := (Option.bind_some _ _).symm.trans H; rw [hy302]; with_reducible exact H2_) | (have H2_ := (Option.bind_some _ _).symm.trans H; with_reducible exact H2_) | with_reducible exact H | (rw [hy302]; exact H) | exact H
         have Ny302 := Aside0.mk hy302; clear hy302; have H' := Aside0.mk H; clear H
         go_wp2_with (first | ((with_reducible refine gate_dst (N := 62) rfl ?_); (try (refine gate_guard (by rfl) ?_; dsimp only)); refine Kd.R_make (Kd.int .i64) _ 3 rfl (N := 62) rfl 26 _ _ rfl (ji22) rfl rfl Try.underlying26 (.int .i64 0) 8 info3 rfl (by decide) (by omega) 0 (ok := fun _ => True) (okp := fun _ => True) rfl (fun _ hk => hk) trivial (of_decide_eq_true (by first | (with_reducible assumption) | assumption)) (Nat.le_trans (Nat.mul_le_mul_right _ (of_decide_eq_true (by first | (with_reducible assumption) | assumption) : (ji22).toNat ≤ 35184372088832)) (by omega)) (Below.refl _ _) (Nat.le_refl _) ?_; intro v303 w25 ho26 hb hg_ hnew_; clear hg_ hnew_; (first | rw [← Ny302.out] at ho26 | (simp only [Int.reduceToNat] at ho26; rw [← Ny302.out] at ho26)); have n0_ := Aside0.mk (Kd.V_elder' (by (with_reducible repeat (first | apply Kd.V_alloc | apply Kd.V_drewN | apply Kd.V_drew)); exact HO_1.out) (Kd.R_base ho26) hb); have n1_ := Aside0.mk (Kd.R_elder' (by (with_reducible repeat (first | apply Kd.R_alloc | apply Kd.R_drewN | apply Kd.R_drew)); exact HO_9.out) (Kd.R_base ho26) hb); have n2_ := Aside0.mk (Kd.R_lower (Kd.R_new' (Kd.R_newM (M := fun k_ => (w.heap.size ≤ k_)) ho26 (below_size (by repeat (first | (with_reducible first | exact HB.out | apply below_alloc | apply pw_below_drewN | apply below_drew1) | exact HB.out))) (fun k_ h_ => h_)) (Kd.R_lt (by (with_reducible repeat (first | apply Kd.R_alloc | apply Kd.R_drewN | apply Kd.R_drew)); exact HO_9.out))) (below_size (by repeat (first | (with_reducible first | exact HB.out | apply below_alloc | apply pw_below_drewN | apply below_drew1) | exact HB.out)))); have n3_ := Aside0.mk (below_step (by repeat (first | (with_reducible first | exact HB.out | apply below_alloc | apply pw_below_drewN | apply below_drew1) | exact HB.out)) hb); clear HO_1; clear HO_9; clear HB; have HO_1 := n0_; have HO_9 := n1_; have HO304 := n2_; have HB := n3_; clear n0_ n1_ n2_ n3_; clear hb ho26))
         go_loopg [12] kj12 (fun kq v12 w' => ∃ (x11_3 : List Int) (x12_3 : Int), v12 = .int .i64 x12_3 ∧ Aside0 (croftlaw42_SpanWays.l0 kq (ji22) x1_6 a2 a3 t298 t299 x11_3 x12_3 = some r) ∧ Aside0 (kq ≤ kj12) ∧ Aside0 (Kd.V k31 31 w' w.heap.size (fun k_ => (P1_ k_ ∨ w.heap.size ≤ k_) ∧ some k_ ≠ (v300 : Value).ownBlock ∧ some k_ ≠ (v303 : Value).ownBlock) (.slice Ao14 x1_6.length co14) x1_6) ∧ Aside0 (Kd.R (Kd.int .i64) 3 w' w.heap.size (fun k_ => (w.heap.size ≤ k_) ∧ some k_ ≠ (v303 : Value).ownBlock) v300 t298) ∧ Aside0 (Kd.R (Kd.int .i64) 3 w' w.heap.size (fun k_ => (w.heap.size ≤ k_) ∧ some k_ ≠ (v300 : Value).ownBlock) v303 x11_3) ∧ Aside0 (Below w.heap.size w w'))
         case atStart => exact ⟨(y302), (0), (by first | rfl | (simp; done) | (simp [*]; done)), H', ⟨Nat.le_refl _⟩, ⟨by (with_reducible repeat (first | apply Kd.V_alloc | apply Kd.V_drewN | apply Kd.V_drew)); exact Kd.V_mono HO_1.out (fun _ hk => ⟨hk.1.1, ⟨hk.1.2, hk.2⟩⟩)⟩, ⟨by (with_reducible repeat (first | apply Kd.R_alloc | apply Kd.R_drewN | apply Kd.R_drew)); exact HO_9.out⟩, ⟨by (with_reducible repeat (first | apply Kd.R_alloc | apply Kd.R_drewN | apply Kd.R_drew)); exact Kd.R_mono HO304.out (fun _ hk => ⟨hk.1.1, hk.2⟩)⟩, ⟨by repeat (first | (with_reducible first | exact HB.out | apply below_alloc | apply pw_below_drewN | apply below_drew1) | exact HB.out)⟩⟩
         case round =>
          clear H'; (try clear c1); (try clear q1); (try clear c2); (try clear p2); (try clear c5); (try clear c6); (try clear p6); (try clear c9); (try clear c9b0); (try clear c9b1); (try clear c10); (try clear c10b0); (try clear c10b1); (try clear q11); (try clear c12); (try clear c16); (try clear c16b0); (try clear c17); (try clear c17b0); (try clear c18); (try clear c18b0); (try clear c19); (try clear c20); (try clear c23); (try clear c23b0); (try clear c23b1); (try clear c24); (try clear c24b0); (try clear c24b1); (try clear p2); (try clear p6); (try clear q1); (try clear q11); obtain ⟨x11_3, x12_3, rfl, HA, HK3, HO_1, HO_9, HO_11, HB⟩ := hrel
          cases gk with
          | zero => exact absurd HA.out (by simp [croftlaw42_SpanWays.l0])
          | succ k3 =>
           have H := HA.out; clear HA; simp only [croftlaw42_SpanWays.l0] at H
           by_cases c27 : x12_3 < (ji22)
           ·rw [if_pos c27] at H; have c27b0 : decide (x12_3 < (ji22)) = true := decide_eq_true c27; clear c27
            by_cases c28 : 0 ≤ x12_3
            ·rw [if_pos c28] at H; have c28b0 : decide (0 ≤ x12_3) = true := decide_eq_true c28; clear c28
             by_cases c29 : x12_3 < (x11_3.length : Int)
             ·rw [if_pos c29] at H; have c29b0 : decide (x12_3 < (x11_3.length : Int)) = true := decide_eq_true c29; clear c29; obtain ⟨y305, hy305⟩ : ∃ y_ : List Int, y_ = (x11_3.set (x12_3 : Int).toNat 99) := ⟨_, rfl⟩
              replace H : (croftlaw42_SpanWays.l0 k3 (ji22) x1_6 a2 a3 t298 t299 y305 (wrap64 (x12_3 + 1))) = some r := by first | (rw [hy305]; with_reducible exact H) | (have H2_ := (Option.bind_some _ _).symm.trans H; rw [hy305]; with_reducible exact H2_) | (have H2_ := (Option.bind_some _ _).symm.trans H; with_reducible exact H2_) | with_reducible exact H | (rw [hy305]; exact H) | exact H
              have Ny305 := Aside0.mk hy305; clear hy305
              as_aux_lemma =>
               have H' := Aside0.mk H; clear H; have p30 : 0 ≤ (x12_3 : Int) := of_decide_eq_true (by first | (with_reducible assumption) | assumption); have q30 : (x12_3 : Int) < ((x11_3.length : Int) : Int) := of_decide_eq_true (by first | (with_reducible assumption) | assumption); obtain ⟨go30, co30, eo30, gb30, gl30, cl30, HG30⟩ := Kd.R_form HO_11.out (by omega)
               (first | cases eo30 | (injection eo30 with ea_ en_ ec_; (first | subst ea_ | (injection ea_ with ea_; subst ea_)); subst ec_; clear en_))
               have GB30 := Aside0.mk gb30; have GG30 := Aside0.mk HG30; clear gb30 gl30 HG30; obtain ⟨hx30_0, hf30_0⟩ := Kd.R_celln 0 HO_11.out (x12_3 : Int) p30 q30; replace p30 := eq_true p30; replace q30 := eq_true q30; have HP31 := Kd.R_putg HO_11.out (x12_3 : Int) 99
               go_wp2_with (first | ((with_reducible refine gate_store (t := 3) (p := 70) rfl ?_); refine store_event (t := 3) (p := 70) (v := ?vo_w32) (w1 := (wr.setCell ⟨go30, (x12_3 : Int).toNat, none⟩ (.int .i64 99))) ?hg ?ho ?hn ?hr ?_; (case ho => rfl); (case hg => rfl); (case hn => rfl); (case hr => first | (go_simp; done) | (go_simp; rfl)); intro w32 hw; have hg : wr.grownBy w32 (some go30) := (by rw [hw]; exact HP31.2); have hp_ : Kd.R (Kd.int .i64) 3 w32 w.heap.size (fun k_ => (w.heap.size ≤ k_) ∧ some k_ ≠ (v300 : Value).ownBlock) (.slice (some ⟨go30, 0, none⟩) x11_3.length co30) y305 := (by rw [hw, Ny305.out]; exact HP31.1); clear HP31; have n0_ := Aside0.mk (Kd.V_afterv (v := (.slice (some ⟨go30, 0, none⟩) x11_3.length co30)) (v1 := (.slice (some ⟨go30, 0, none⟩) x11_3.length co30)) (ok := (fun k_ => (P1_ k_ ∨ w.heap.size ≤ k_) ∧ some k_ ≠ (v300 : Value).ownBlock)) (by (with_reducible repeat (first | apply Kd.V_alloc | apply Kd.V_drewN | apply Kd.V_drew)); exact Kd.V_mono HO_1.out (fun _ hk => ⟨⟨hk.1, hk.2.1⟩, hk.2.2⟩)) hg (.inl rfl)); have n1_ := Aside0.mk (Kd.R_after (v := (.slice (some ⟨go30, 0, none⟩) x11_3.length co30)) (v1 := (.slice (some ⟨go30, 0, none⟩) x11_3.length co30)) (ok := (fun k_ => (w.heap.size ≤ k_))) (by (with_reducible repeat (first | apply Kd.R_alloc | apply Kd.R_drewN | apply Kd.R_drew)); exact HO_9.out) hg (.inl rfl)); have n2_ := Aside0.mk (hp_); have n3_ := Aside0.mk ((by rw [hw]; exact below_set (HB.out) GB30.out : Below w.heap.size w w32)); clear HO_1; clear HO_9; clear HO_11; clear HB; have HO_1 := n0_; have HO_9 := n1_; have HO_11 := n2_; have HB := n3_; clear n0_ n1_ n2_ n3_; clear hg hw hp_))
               go_roundg k3
               case measure => have := HJ6.out; have := HJ12.out; have := HK3.out; omega
               case rel => exact ⟨(y305), (wrap64 (x12_3 + 1)), (by first | rfl | (simp; done) | (simp [*]; done)), H', ⟨by have := HJ6.out; have := HJ12.out; have := HK3.out; omega⟩, ⟨by (with_reducible repeat (first | apply Kd.V_alloc | apply Kd.V_drewN | apply Kd.V_drew)); exact Kd.V_mono HO_1.out (fun _ hk => ⟨hk.1.1, ⟨hk.1.2, hk.2⟩⟩)⟩, ⟨by (with_reducible repeat (first | apply Kd.R_alloc | apply Kd.R_drewN | apply Kd.R_drew)); exact HO_9.out⟩, ⟨by (with_reducible repeat (first | apply Kd.R_alloc | apply Kd.R_drewN | apply Kd.R_drew)); exact HO_11.out⟩, ⟨by repeat (first | (with_reducible first | exact HB.out | apply below_alloc | apply pw_below_drewN | apply below_drew1) | exact HB.out)⟩⟩
             ·rw [if_neg c29] at H; exact absurd H (by simp)
            ·rw [if_neg c28] at H; exact absurd H (by simp)
           ·rw [if_neg c27] at H; have c27b0 : decide (x12_3 < (ji22)) = false := decide_eq_false c27; clear c27
            by_cases c33 : 0 ≤ a3
            ·rw [if_pos c33] at H; have c33b0 : decide (0 ≤ a3) = true := decide_eq_true c33; clear c33
             by_cases c34 : a3 < (x11_3.length : Int)
             ·rw [if_pos c34] at H; have c34b0 : decide (a3 < (x11_3.length : Int)) = true := decide_eq_true c34; clear c34; obtain ⟨y306, hy306⟩ : ∃ y_ : List Int, y_ = (x11_3.set (a3 : Int).toNat 0) := ⟨_, rfl⟩
              replace H : (croftlaw42_SpanWays.l1 k3 (ji22) x1_6 a2 a3 t298 t299 y306 0) = some r := by first | (rw [hy306]; with_reducible exact H) | (have H2_ := (Option.bind_some _ _).symm.trans H; rw [hy306]; with_reducible exact H2_) | (have H2_ := (Option.bind_some _ _).symm.trans H; with_reducible exact H2_) | with_reducible exact H | (rw [hy306]; exact H) | exact H
              have Ny306 := Aside0.mk hy306; clear hy306; have H' := Aside0.mk H; clear H; have p35 : 0 ≤ (a3 : Int) := of_decide_eq_true (by first | (with_reducible assumption) | assumption); have q35 : (a3 : Int) < ((x11_3.length : Int) : Int) := of_decide_eq_true (by first | (with_reducible assumption) | assumption); obtain ⟨go35, co35, eo35, gb35, gl35, cl35, HG35⟩ := Kd.R_form HO_11.out (by omega)
              (first | cases eo35 | (injection eo35 with ea_ en_ ec_; (first | subst ea_ | (injection ea_ with ea_; subst ea_)); subst ec_; clear en_))
              have GB35 := Aside0.mk gb35; have GG35 := Aside0.mk HG35; clear gb35 gl35 HG35; obtain ⟨hx35_0, hf35_0⟩ := Kd.R_celln 0 HO_11.out (a3 : Int) p35 q35; replace p35 := eq_true p35; replace q35 := eq_true q35; have HP36 := Kd.R_putg HO_11.out (a3 : Int) 0
              go_wp2_with (first | ((with_reducible refine gate_store (t := 3) (p := 73) rfl ?_); refine store_event (t := 3) (p := 73) (v := ?vo_w37) (w1 := (wr.setCell ⟨go35, (a3 : Int).toNat, none⟩ (.int .i64 0))) ?hg ?ho ?hn ?hr ?_; (case ho => rfl); (case hg => rfl); (case hn => rfl); (case hr => first | (go_simp; done) | (go_simp; rfl)); intro w37 hw; have hg : wr.grownBy w37 (some go35) := (by rw [hw]; exact HP36.2); have hp_ : Kd.R (Kd.int .i64) 3 w37 w.heap.size (fun k_ => (w.heap.size ≤ k_) ∧ some k_ ≠ (v300 : Value).ownBlock) (.slice (some ⟨go35, 0, none⟩) x11_3.length co35) y306 := (by rw [hw, Ny306.out]; exact HP36.1); clear HP36; have n0_ := Aside0.mk (Kd.V_afterv (v := (.slice (some ⟨go35, 0, none⟩) x11_3.length co35)) (v1 := (.slice (some ⟨go35, 0, none⟩) x11_3.length co35)) (ok := (fun k_ => (P1_ k_ ∨ w.heap.size ≤ k_) ∧ some k_ ≠ (v300 : Value).ownBlock)) (by (with_reducible repeat (first | apply Kd.V_alloc | apply Kd.V_drewN | apply Kd.V_drew)); exact Kd.V_mono HO_1.out (fun _ hk => ⟨⟨hk.1, hk.2.1⟩, hk.2.2⟩)) hg (.inl rfl)); have n1_ := Aside0.mk (Kd.R_after (v := (.slice (some ⟨go35, 0, none⟩) x11_3.length co35)) (v1 := (.slice (some ⟨go35, 0, none⟩) x11_3.length co35)) (ok := (fun k_ => (w.heap.size ≤ k_))) (by (with_reducible repeat (first | apply Kd.R_alloc | apply Kd.R_drewN | apply Kd.R_drew)); exact HO_9.out) hg (.inl rfl)); have n2_ := Aside0.mk (hp_); have n3_ := Aside0.mk ((by rw [hw]; exact below_set (HB.out) GB35.out : Below w.heap.size w w37)); clear HO_1; clear HO_9; clear HO_11; clear HB; have HO_1 := n0_; have HO_9 := n1_; have HO_11 := n2_; have HB := n3_; clear n0_ n1_ n2_ n3_; clear hg hw hp_))
              go_loopg [13] k3 (fun kq v13 w' => ∃ (x11_4 : List Int) (x13_4 : Int), v13 = .int .i64 x13_4 ∧ Aside0 (croftlaw42_SpanWays.l1 kq (ji22) x1_6 a2 a3 t298 t299 x11_4 x13_4 = some r) ∧ Aside0 (kq ≤ k3) ∧ Aside0 (Kd.V k31 31 w' w.heap.size (fun k_ => (P1_ k_ ∨ w.heap.size ≤ k_) ∧ some k_ ≠ (v300 : Value).ownBlock ∧ some k_ ≠ ((.slice (some ⟨go35, 0, none⟩) x11_3.length co35) : Value).ownBlock) (.slice Ao14 x1_6.length co14) x1_6) ∧ Aside0 (Kd.R (Kd.int .i64) 3 w' w.heap.size (fun k_ => (w.heap.size ≤ k_) ∧ some k_ ≠ ((.slice (some ⟨go35, 0, none⟩) x11_3.length co35) : Value).ownBlock) v300 t298) ∧ Aside0 (Kd.R (Kd.int .i64) 3 w' w.heap.size (fun k_ => (w.heap.size ≤ k_) ∧ some k_ ≠ (v300 : Value).ownBlock) (.slice (some ⟨go35, 0, none⟩) x11_3.length co35) x11_4) ∧ Aside0 (Below w.heap.size w w'))
              case atStart => exact ⟨(y306), (0), (by first | rfl | (simp; done) | (simp [*]; done)), H', ⟨Nat.le_refl _⟩, ⟨by (with_reducible repeat (first | apply Kd.V_alloc | apply Kd.V_drewN | apply Kd.V_drew)); exact Kd.V_mono HO_1.out (fun _ hk => ⟨hk.1.1, ⟨hk.1.2, hk.2⟩⟩)⟩, ⟨by (with_reducible repeat (first | apply Kd.R_alloc | apply Kd.R_drewN | apply Kd.R_drew)); exact HO_9.out⟩, ⟨by (with_reducible repeat (first | apply Kd.R_alloc | apply Kd.R_drewN | apply Kd.R_drew)); exact HO_11.out⟩, ⟨by repeat (first | (with_reducible first | exact HB.out | apply below_alloc | apply pw_below_drewN | apply below_drew1) | exact HB.out)⟩⟩
              case round =>
               clear H'; (try clear c1); (try clear q1); (try clear c2); (try clear p2); (try clear c3); (try clear p3); (try clear q3); (try clear hx3); (try clear c5); (try clear c6); (try clear p6); (try clear c9); (try clear c9b0); (try clear c9b1); (try clear c10); (try clear c10b0); (try clear c10b1); (try clear q11); (try clear c12); (try clear c16); (try clear c16b0); (try clear c17); (try clear c17b0); (try clear c18); (try clear c18b0); (try clear c19); (try clear c20); (try clear c23); (try clear c23b0); (try clear c23b1); (try clear c24); (try clear c24b0); (try clear c24b1); (try clear c27); (try clear c27b0); (try clear c28); (try clear c28b0); (try clear c29); (try clear c29b0); (try clear p30); (try clear q30); (try clear hx30); (try clear hf30); (try clear c33); (try clear c33b0); (try clear c34); (try clear c34b0); (try clear p35); (try clear q35); (try clear hx35); (try clear hf35); (try clear hx30_0); (try clear hx35_0); (try clear p2); (try clear p30); (try clear p35); (try clear p6); (try clear q1); (try clear q11); (try clear q30); (try clear q35); obtain ⟨x11_4, x13_4, rfl, HA, HK4, HO_1, HO_9, HO_11, HB⟩ := hrel; have hl11_4 := (Kd.R_reads' HO_11.out).1; rw [hl11_4] at HO_11
               (try simp only [hl11_4])
               (try simp only [hl11_4] at HO_1)
               (try simp only [hl11_4] at HO_9)
               cases gk with
               | zero => exact absurd HA.out (by simp [croftlaw42_SpanWays.l1])
               | succ k4 =>
                have H := HA.out; clear HA; simp only [croftlaw42_SpanWays.l1] at H
                by_cases c38 : x13_4 < (ji22)
                ·rw [if_pos c38] at H; have c38b0 : decide (x13_4 < (ji22)) = true := decide_eq_true c38; clear c38; have H' := Aside0.mk H; clear H; go_wp2
                 go_loopg [14] k4 (fun kq v14 w' => ∃ (x11_5 : List Int) (x14_5 : Int), v14 = .int .i64 x14_5 ∧ Aside0 (croftlaw42_SpanWays.l2 kq (ji22) x1_6 a2 a3 t298 t299 x11_5 x13_4 x14_5 = some r) ∧ Aside0 (kq ≤ k4) ∧ Aside0 (Kd.V k31 31 w' w.heap.size (fun k_ => (P1_ k_ ∨ w.heap.size ≤ k_) ∧ some k_ ≠ (v300 : Value).ownBlock ∧ some k_ ≠ ((.slice (some ⟨go35, 0, none⟩) x11_4.length co35) : Value).ownBlock) (.slice Ao14 x1_6.length co14) x1_6) ∧ Aside0 (Kd.R (Kd.int .i64) 3 w' w.heap.size (fun k_ => (w.heap.size ≤ k_) ∧ some k_ ≠ ((.slice (some ⟨go35, 0, none⟩) x11_4.length co35) : Value).ownBlock) v300 t298) ∧ Aside0 (Kd.R (Kd.int .i64) 3 w' w.heap.size (fun k_ => (w.heap.size ≤ k_) ∧ some k_ ≠ (v300 : Value).ownBlock) (.slice (some ⟨go35, 0, none⟩) x11_4.length co35) x11_5) ∧ Aside0 (Below w.heap.size w w'))
                 case atStart => exact ⟨(x11_4), (0), (by first | rfl | (simp; done) | (simp [*]; done)), H', ⟨Nat.le_refl _⟩, ⟨by (try simp only [hl11_4]); (with_reducible repeat (first | apply Kd.V_alloc | apply Kd.V_drewN | apply Kd.V_drew)); exact HO_1.out⟩, ⟨by (try simp only [hl11_4]); (with_reducible repeat (first | apply Kd.R_alloc | apply Kd.R_drewN | apply Kd.R_drew)); exact HO_9.out⟩, ⟨by (try simp only [hl11_4]); (with_reducible repeat (first | apply Kd.R_alloc | apply Kd.R_drewN | apply Kd.R_drew)); exact HO_11.out⟩, ⟨by repeat (first | (with_reducible first | exact HB.out | apply below_alloc | apply pw_below_drewN | apply below_drew1) | exact HB.out)⟩⟩
                 case round =>
                  clear H'; (try clear c1); (try clear q1); (try clear c2); (try clear p2); (try clear c3); (try clear p3); (try clear q3); (try clear hx3); (try clear c5); (try clear c6); (try clear p6); (try clear c9); (try clear c9b0); (try clear c9b1); (try clear c10); (try clear c10b0); (try clear c10b1); (try clear q11); (try clear c12); (try clear c16); (try clear c16b0); (try clear c17); (try clear c17b0); (try clear c18); (try clear c18b0); (try clear c19); (try clear c20); (try clear c23); (try clear c23b0); (try clear c23b1); (try clear c24); (try clear c24b0); (try clear c24b1); (try clear c27); (try clear c27b0); (try clear c28); (try clear c28b0); (try clear c29); (try clear c29b0); (try clear p30); (try clear q30); (try clear hx30); (try clear hf30); (try clear c33); (try clear c33b0); (try clear c34); (try clear c34b0); (try clear p35); (try clear q35); (try clear hx35); (try clear hf35); (try clear c38); (try clear c38b0); (try clear hx30_0); (try clear hx35_0); (try clear p2); (try clear p3); (try clear p30); (try clear p35); (try clear p6); (try clear q1); (try clear q11); (try clear q3); (try clear q30); (try clear q35); obtain ⟨x11_5, x14_5, rfl, HA, HK5, HO_1, HO_9, HO_11, HB⟩ := hrel; have hl11_5 := (Kd.R_reads' HO_11.out).1; rw [hl11_5] at HO_11
                  (try simp only [hl11_5])
                  (try simp only [hl11_5] at HO_1)
                  (try simp only [hl11_5] at HO_9)
                  cases gk with
                  | zero => exact absurd HA.out (by simp [croftlaw42_SpanWays.l2])
                  | succ k5 =>
                   have H := HA.out; clear HA; simp only [croftlaw42_SpanWays.l2] at H
                   by_cases c39 : x14_5 < (ji22)
                   ·rw [if_pos c39] at H; have c39b0 : decide (x14_5 < (ji22)) = true := decide_eq_true c39; clear c39; have H' := Aside0.mk H; clear H; go_wp2
                    go_loopg [15] k5 (fun kq v15 w' => ∃ (x11_6 : List Int) (x15_6 : Int), v15 = .int .i64 x15_6 ∧ Aside0 (croftlaw42_SpanWays.l3 kq (ji22) x1_6 a2 a3 t298 t299 x11_6 x13_4 x14_5 x15_6 = some r) ∧ Aside0 (kq ≤ k5) ∧ Aside0 (Kd.V k31 31 w' w.heap.size (fun k_ => (P1_ k_ ∨ w.heap.size ≤ k_) ∧ some k_ ≠ (v300 : Value).ownBlock ∧ some k_ ≠ ((.slice (some ⟨go35, 0, none⟩) x11_5.length co35) : Value).ownBlock) (.slice Ao14 x1_6.length co14) x1_6) ∧ Aside0 (Kd.R (Kd.int .i64) 3 w' w.heap.size (fun k_ => (w.heap.size ≤ k_) ∧ some k_ ≠ ((.slice (some ⟨go35, 0, none⟩) x11_5.length co35) : Value).ownBlock) v300 t298) ∧ Aside0 (Kd.R (Kd.int .i64) 3 w' w.heap.size (fun k_ => (w.heap.size ≤ k_) ∧ some k_ ≠ (v300 : Value).ownBlock) (.slice (some ⟨go35, 0, none⟩) x11_5.length co35) x11_6) ∧ Aside0 (Below w.heap.size w w'))
                    case atStart => exact ⟨(x11_5), (0), (by first | rfl | (simp; done) | (simp [*]; done)), H', ⟨Nat.le_refl _⟩, ⟨by (try simp only [hl11_4]); (try simp only [hl11_5]); (with_reducible repeat (first | apply Kd.V_alloc | apply Kd.V_drewN | apply Kd.V_drew)); exact HO_1.out⟩, ⟨by (try simp only [hl11_4]); (try simp only [hl11_5]); (with_reducible repeat (first | apply Kd.R_alloc | apply Kd.R_drewN | apply Kd.R_drew)); exact HO_9.out⟩, ⟨by (try simp only [hl11_4]); (try simp only [hl11_5]); (with_reducible repeat (first | apply Kd.R_alloc | apply Kd.R_drewN | apply Kd.R_drew)); exact HO_11.out⟩, ⟨by repeat (first | (with_reducible first | exact HB.out | apply below_alloc | apply pw_below_drewN | apply below_drew1) | exact HB.out)⟩⟩
                    case round =>
                     clear H'; (try clear c1); (try clear q1); (try clear c2); (try clear p2); (try clear c3); (try clear p3); (try clear q3); (try clear hx3); (try clear c5); (try clear c6); (try clear p6); (try clear c9); (try clear c9b0); (try clear c9b1); (try clear c10); (try clear c10b0); (try clear c10b1); (try clear q11); (try clear c12); (try clear c16); (try clear c16b0); (try clear c17); (try clear c17b0); (try clear c18); (try clear c18b0); (try clear c19); (try clear c20); (try clear c23); (try clear c23b0); (try clear c23b1); (try clear c24); (try clear c24b0); (try clear c24b1); (try clear c27); (try clear c27b0); (try clear c28); (try clear c28b0); (try clear c29); (try clear c29b0); (try clear p30); (try clear q30); (try clear hx30); (try clear hf30); (try clear c33); (try clear c33b0); (try clear c34); (try clear c34b0); (try clear p35); (try clear q35); (try clear hx35); (try clear hf35); (try clear c38); (try clear c38b0); (try clear c39); (try clear c39b0); (try clear hx30_0); (try clear hx35_0); (try clear p2); (try clear p3); (try clear p30); (try clear p35); (try clear p6); (try clear q1); (try clear q11); (try clear q3); (try clear q30); (try clear q35); obtain ⟨x11_6, x15_6, rfl, HA, HK6, HO_1, HO_9, HO_11, HB⟩ := hrel; have hl11_6 := (Kd.R_reads' HO_11.out).1; rw [hl11_6] at HO_11
                     (try simp only [hl11_6])
                     (try simp only [hl11_6] at HO_1)
                     (try simp only [hl11_6] at HO_9)
                     cases gk with
                     | zero => exact absurd HA.out (by simp [croftlaw42_SpanWays.l3])
                     | succ k6 =>
                      have H := HA.out; clear HA; simp only [croftlaw42_SpanWays.l3] at H
                      by_cases c40 : x15_6 < (ji22)
                      ·rw [if_pos c40] at H; have c40b0 : decide (x15_6 < (ji22)) = true := decide_eq_true c40; clear c40
                       by_cases c41 : 0 ≤ x15_6
                       ·rw [if_pos c41] at H; have c41b0 : decide (0 ≤ x15_6) = true := decide_eq_true c41; clear c41
                        by_cases c42 : x15_6 < (x11_6.length : Int)
                        ·rw [if_pos c42] at H; have c42b0 : decide (x15_6 < (x11_6.length : Int)) = true := decide_eq_true c42
                         (try simp only [hl11_4] at c42b0)
                         (try simp only [hl11_5] at c42b0)
                         (try simp only [hl11_6] at c42b0)
                         clear c42
                         by_cases c43 : (rd x11_6 x15_6) < 99
                         ·rw [if_pos c43] at H; have c43b0 : decide ((rd x11_6 x15_6) < 99) = true := decide_eq_true c43; clear c43; replace H := Option.bind_eq_some_iff.mp H; obtain ⟨t308, A440, H⟩ := H; replace H : (if t308 = true then (if 0 ≤ x14_5 then (if x14_5 < (x11_6.length : Int) then (croftlaw42_SpanWays.l3 k6 (ji22) x1_6 a2 a3 t298 t299 (x11_6.set (x14_5 : Int).toNat (mn (rd x11_6 x14_5) (wrap64 ((rd x11_6 x15_6) + 1)))) x13_4 x14_5 (wrap64 (x15_6 + 1))) else (none)) else (none)) else (croftlaw42_SpanWays.l3 k6 (ji22) x1_6 a2 a3 t298 t299 x11_6 x13_4 x14_5 (wrap64 (x15_6 + 1)))) = some r := H; have A44 := Aside0.mk A440; clear A440
                          by_cases c45 : t308 = true
                          ·subst c45
                           have H1 : (if 0 ≤ x14_5 then (if x14_5 < (x11_6.length : Int) then (croftlaw42_SpanWays.l3 k6 (ji22) x1_6 a2 a3 t298 t299 (x11_6.set (x14_5 : Int).toNat (mn (rd x11_6 x14_5) (wrap64 ((rd x11_6 x15_6) + 1)))) x13_4 x14_5 (wrap64 (x15_6 + 1))) else (none)) else (none)) = some r := by rw [if_pos rfl] at H; exact H
                           clear H; have H := H1; clear H1
                           by_cases c46 : 0 ≤ x14_5
                           ·rw [if_pos c46] at H; have c46b0 : decide (0 ≤ x14_5) = true := decide_eq_true c46; clear c46
                            by_cases c47 : x14_5 < (x11_6.length : Int)
                            ·rw [if_pos c47] at H; have c47b0 : decide (x14_5 < (x11_6.length : Int)) = true := decide_eq_true c47
                             (try simp only [hl11_4] at c47b0)
                             (try simp only [hl11_5] at c47b0)
                             (try simp only [hl11_6] at c47b0)
                             clear c47; obtain ⟨ji48, hji48⟩ : ∃ j_ : Int, (mn (rd x11_6 x14_5) (wrap64 ((rd x11_6 x15_6) + 1))) = j_ := ⟨_, rfl⟩
                             replace H : (croftlaw42_SpanWays.l3 k6 (ji22) x1_6 a2 a3 t298 t299 (x11_6.set (x14_5 : Int).toNat (ji48)) x13_4 x14_5 (wrap64 (x15_6 + 1))) = some r := by first | (rw [hji48] at H; exact H) | (simp only [hji48] at H ⊢; exact H)
                             (try rw [hji48] at A44)
                             have hji48_ : (if (wrap64 ((rd x11_6 x15_6) + 1)) < (rd x11_6 x14_5) then (wrap64 ((rd x11_6 x15_6) + 1)) else (rd x11_6 x14_5)) = ji48 := hji48; obtain ⟨y311, hy311⟩ : ∃ y_ : List Int, y_ = (x11_6.set (x14_5 : Int).toNat (ji48)) := ⟨_, rfl⟩
                             replace H : (croftlaw42_SpanWays.l3 k6 (ji22) x1_6 a2 a3 t298 t299 y311 x13_4 x14_5 (wrap64 (x15_6 + 1))) = some r := by first | (rw [hy311]; with_reducible exact H) | (have H2_ := (Option.bind_some _ _).symm.trans H; rw [hy311]; with_reducible exact H2_) | (have H2_ := (Option.bind_some _ _).symm.trans H; with_reducible exact H2_) | with_reducible exact H | (rw [hy311]; exact H) | exact H
                             have Ny311 := Aside0.mk hy311; clear hy311
                             as_aux_lemma =>
                              have H' := Aside0.mk H; clear H; have p307 : 0 ≤ (x15_6 : Int) := of_decide_eq_true (by first | (with_reducible assumption) | assumption); have q307 : x15_6 < (x11_6.length : Int) := of_decide_eq_true (by first | (with_reducible assumption) | assumption); obtain ⟨ad307, e307, hx307_0⟩ := Kd.at_int (Kd.R_reads' HO_11.out).2.2 x15_6 p307 q307; obtain rfl : (⟨go35, 0, none⟩ : Addr) = ad307 := (by injection e307)
                              (first | simp only [add_plain] at hx307_0 | simp only [add_at] at hx307_0 | simp only [Addr.add, Nat.zero_add] at hx307_0 | skip)
                              replace p307 := eq_true p307; replace q307 := eq_true q307; (try go_wp2_with (first | (go_at_call 13; (with_reducible refine (croftlaw42_joined.calls k6 _ _ x1_6 x14_5 x15_6 true _ ?side1 ?side2 A44.out).mono ?_); (case side1 => repeat (first | exact (Kd.V_reads' HO_1.out).2.2 | (with_reducible refine Kd.C_alloc ?_ _) | (with_reducible refine Kd.C_drewN ?_ _) | (with_reducible refine Kd.C_drew ?_))); (case side2 => exact (Kd.V_reads' HO_1.out).2.1); rintro e w' ⟨rfl, ⟨nd, rfl⟩⟩; (try (rw [drewN_self wr]; generalize hq_ : World.drewN wr _ = wr; have n0_ : Aside0 (Kd.V k31 31 wr w.heap.size (fun k_ => (P1_ k_ ∨ w.heap.size ≤ k_) ∧ some k_ ≠ (.slice (some ⟨go35, 0, none⟩) x11_6.length co35 : Value).ownBlock ∧ some k_ ≠ (v300 : Value).ownBlock) (.slice Ao14 x1_6.length co14) x1_6) := ⟨by rw [← hq_]; exact (by (with_reducible repeat (first | apply Kd.V_alloc | apply Kd.V_drewN | apply Kd.V_drew)); exact Kd.V_mono HO_1.out (fun _ hk => ⟨hk.1, ⟨hk.2.2, hk.2.1⟩⟩))⟩; have n1_ : Aside0 (Kd.R (Kd.int .i64) 3 wr w.heap.size (fun k_ => (w.heap.size ≤ k_) ∧ some k_ ≠ (v300 : Value).ownBlock) (.slice (some ⟨go35, 0, none⟩) x11_6.length co35) x11_6) := ⟨by rw [← hq_]; exact (by (with_reducible repeat (first | apply Kd.R_alloc | apply Kd.R_drewN | apply Kd.R_drew)); exact HO_11.out)⟩; have n2_ : Aside0 (Kd.R (Kd.int .i64) 3 wr w.heap.size (fun k_ => (w.heap.size ≤ k_) ∧ some k_ ≠ (.slice (some ⟨go35, 0, none⟩) x11_6.length co35 : Value).ownBlock) v300 t298) := ⟨by rw [← hq_]; exact (by (with_reducible repeat (first | apply Kd.R_alloc | apply Kd.R_drewN | apply Kd.R_drew)); exact HO_9.out)⟩; have n3_ : Aside0 (Below w.heap.size w wr) := ⟨by rw [← hq_]; exact (by repeat (first | (with_reducible first | exact HB.out | apply below_alloc | apply pw_below_drewN | apply below_drew1) | exact HB.out))⟩; clear HO_1 HO_11 HO_9 HB hq_; have HO_1 := n0_; have HO_11 := n1_; have HO_9 := n2_; have HB := n3_; clear n0_ n1_ n2_ n3_)))))
                              have n0_ := Aside0.mk (Kd.V_drew HO_1.out); have n1_ := Aside0.mk (Kd.R_drew HO_9.out); have n2_ := Aside0.mk (Kd.R_drew HO_11.out); have n3_ := Aside0.mk (below_drew1 HB.out); clear HO_1; clear HO_9; clear HO_11; clear HB; have HO_1 := n0_; have HO_9 := n1_; have HO_11 := n2_; have HB := n3_; clear n0_ n1_ n2_ n3_; have p309 : 0 ≤ (x14_5 : Int) := of_decide_eq_true (by first | (with_reducible assumption) | assumption); have q309 : x14_5 < (x11_6.length : Int) := of_decide_eq_true (by first | (with_reducible assumption) | assumption); obtain ⟨ad309, e309, hx309_0⟩ := Kd.at_int (Kd.R_reads' HO_11.out).2.2 x14_5 p309 q309; obtain rfl : (⟨go35, 0, none⟩ : Addr) = ad309 := (by injection e309)
                              (first | simp only [add_plain] at hx309_0 | simp only [add_at] at hx309_0 | simp only [Addr.add, Nat.zero_add] at hx309_0 | skip)
                              replace p309 := eq_true p309; replace q309 := eq_true q309; have p310 : 0 ≤ (x15_6 : Int) := of_decide_eq_true (by first | (with_reducible assumption) | assumption); have q310 : x15_6 < (x11_6.length : Int) := of_decide_eq_true (by first | (with_reducible assumption) | assumption); obtain ⟨ad310, e310, hx310_0⟩ := Kd.at_int (Kd.R_reads' HO_11.out).2.2 x15_6 p310 q310; obtain rfl : (⟨go35, 0, none⟩ : Addr) = ad310 := (by injection e310)
                              (first | simp only [add_plain] at hx310_0 | simp only [add_at] at hx310_0 | simp only [Addr.add, Nat.zero_add] at hx310_0 | skip)
                              replace p310 := eq_true p310; replace q310 := eq_true q310; have p49 : 0 ≤ (x14_5 : Int) := of_decide_eq_true (by first | (with_reducible assumption) | assumption); have q49 : (x14_5 : Int) < ((x11_6.length : Int) : Int) := of_decide_eq_true (by first | (with_reducible assumption) | assumption); obtain ⟨hx49_0, hf49_0⟩ := Kd.R_celln 0 HO_11.out (x14_5 : Int) p49 q49; replace p49 := eq_true p49; replace q49 := eq_true q49; have HP51 := Kd.R_putn HO_11.out (x14_5 : Int) ji48; rw [← Ny311.out] at HP51; have HQ51 := Aside0.mk HP51; clear HP51; refine start_ (n := 14) (S := fun w' => w'.cell? ⟨go35, (x14_5).toNat, none⟩ = some (.int .i64 (rd x11_6 x14_5)) ∧ w'.cell? ⟨go35, (x15_6).toNat, none⟩ = some (.int .i64 (rd x11_6 x15_6))) (ds := [13]) #[false, false, false, false, false, false, false, false, false, false, false, false, false, false] (by kernel_rfl) rfl rfl ⟨hx309_0, hx310_0⟩ (fun hHeld => ?_); refine with_tabW croftlaw42_SpanWays.tab25 croftlaw42_SpanWays.bits25 (fun HT_ HW_ => ?_)
                              generalize wr.drew = w50 at HO_1 HO_9 HO_11 HB HQ51 hf49_0 hx309_0 hx310_0 hx49_0 hHeld ⊢
                              refine pure_ (i := 0) (N := some 100) (v := ?_) (a' := ?_) #[true, false, false, false, false, false, false, false, false, false, false, false, false, false] rfl rfl (any_of HT_.out (by kernel_rfl)) (fun _ _ _ h => h) (Or.inl ⟨by rfl, ?_⟩) ?_ ?_; rotate_left
                              ·intro w'; go_simp; with_reducible rfl
                              rotate_left
                              ·simp only [Act.put, List.setIfInBounds_toArray, List.set_cons_zero, List.set_cons_succ, i64_w, i32_w]; rfl
                              refine pure_ (i := 1) (N := some 101) (v := ?_) (a' := ?_) #[true, true, false, false, false, false, false, false, false, false, false, false, false, false] rfl rfl (any_of HT_.out (by kernel_rfl)) (fun _ _ _ h => h) (Or.inl ⟨by rfl, ?_⟩) ?_ ?_; rotate_left
                              ·intro w'; go_simp; with_reducible rfl
                              rotate_left
                              ·simp only [Act.put, List.setIfInBounds_toArray, List.set_cons_zero, List.set_cons_succ, i64_w, i32_w]; rfl
                              refine pure_ (i := 2) (N := some 102) (v := ?_) (a' := ?_) #[true, true, true, false, false, false, false, false, false, false, false, false, false, false] rfl rfl (any_of HT_.out (by kernel_rfl)) (fun _ _ _ h => h) (Or.inl ⟨by rfl, ?_⟩) ?_ ?_; rotate_left
                              ·intro w'; go_simp; with_reducible rfl
                              rotate_left
                              ·simp only [Act.put, List.setIfInBounds_toArray, List.set_cons_zero, List.set_cons_succ, i64_w, i32_w]; rfl
                              refine pure_ (i := 3) (N := some 103) (v := ?_) (a' := ?_) #[true, true, true, true, false, false, false, false, false, false, false, false, false, false] rfl rfl (any_of HT_.out (by kernel_rfl)) (fun _ _ _ h => h) (Or.inl ⟨by rfl, ?_⟩) ?_ ?_; rotate_left
                              ·intro w'; go_simp; with_reducible rfl
                              rotate_left
                              ·simp only [Act.put, List.setIfInBounds_toArray, List.set_cons_zero, List.set_cons_succ, i64_w, i32_w]; rfl
                              refine pure_ (i := 4) (N := some 104) (v := ?_) (a' := ?_) #[true, true, true, true, true, false, false, false, false, false, false, false, false, false] rfl rfl (any_of HT_.out (by kernel_rfl)) (fun _ _ _ h => h) (Or.inl ⟨by rfl, ?_⟩) ?_ ?_; rotate_left
                              ·intro w'; go_simp; with_reducible rfl
                              rotate_left
                              ·simp only [Act.put, List.setIfInBounds_toArray, List.set_cons_zero, List.set_cons_succ, i64_w, i32_w]; rfl
                              refine pure_ (i := 6) (N := some 106) (v := ?_) (a' := ?_) #[true, true, true, true, true, false, true, false, false, false, false, false, false, false] rfl rfl (any_of HT_.out (by kernel_rfl)) (fun _ _ _ h => h) (Or.inl ⟨by rfl, ?_⟩) ?_ ?_; rotate_left
                              ·intro w'; go_simp; with_reducible rfl
                              rotate_left
                              ·simp only [Act.put, List.setIfInBounds_toArray, List.set_cons_zero, List.set_cons_succ, i64_w, i32_w]; rfl
                              refine pure_ (i := 7) (N := some 107) (v := ?_) (a' := ?_) #[true, true, true, true, true, false, true, true, false, false, false, false, false, false] rfl rfl (any_of HT_.out (by kernel_rfl)) (fun _ _ _ h => h) (Or.inl ⟨by rfl, ?_⟩) ?_ ?_; rotate_left
                              ·intro w'; go_simp; with_reducible rfl
                              rotate_left
                              ·simp only [Act.put, List.setIfInBounds_toArray, List.set_cons_zero, List.set_cons_succ, i64_w, i32_w]; rfl
                              refine pure_ (i := 8) (N := some 108) (v := ?_) (a' := ?_) #[true, true, true, true, true, false, true, true, true, false, false, false, false, false] rfl rfl (any_of HT_.out (by kernel_rfl)) (fun _ _ _ h => h) (Or.inl ⟨by rfl, ?_⟩) ?_ ?_; rotate_left
                              ·intro w'; go_simp; with_reducible rfl
                              rotate_left
                              ·simp only [Act.put, List.setIfInBounds_toArray, List.set_cons_zero, List.set_cons_succ, i64_w, i32_w]; rfl
                              refine take_ (i := 5) (N := some 105) (v := ?_) (a' := ?_) #[true, true, true, true, true, true, true, true, true, false, false, false, false, false] rfl rfl (take_ofW HT_.out HW_.out (by kernel_rfl)) (fun _ _ _ h => h) (Or.inl ⟨by rfl, ?_⟩) hHeld ?_ ?_; rotate_left
                              ·rintro w' ⟨s0, s1⟩
                               go_simp; with_reducible rfl
                              rotate_left
                              ·simp only [Act.put, List.setIfInBounds_toArray, List.set_cons_zero, List.set_cons_succ, i64_w, i32_w]; rfl
                              refine take_ (i := 9) (N := some 109) (v := ?_) (a' := ?_) #[true, true, true, true, true, true, true, true, true, true, false, false, false, false] rfl rfl (take_ofW HT_.out HW_.out (by kernel_rfl)) (fun _ _ _ h => h) (Or.inl ⟨by rfl, ?_⟩) hHeld ?_ ?_; rotate_left
                              ·rintro w' ⟨s0, s1⟩
                               go_simp; with_reducible rfl
                              rotate_left
                              ·simp only [Act.put, List.setIfInBounds_toArray, List.set_cons_zero, List.set_cons_succ, i64_w, i32_w]; rfl
                              refine pure_ (i := 10) (N := some 110) (v := ?_) (a' := ?_) #[true, true, true, true, true, true, true, true, true, true, true, false, false, false] rfl rfl (any_of HT_.out (by kernel_rfl)) (fun _ _ _ h => h) (Or.inl ⟨by rfl, ?_⟩) ?_ ?_; rotate_left
                              ·intro w'; go_simp; with_reducible rfl
                              rotate_left
                              ·simp only [Act.put, List.setIfInBounds_toArray, List.set_cons_zero, List.set_cons_succ, i64_w, i32_w]; rfl
                              refine pure_ (i := 11) (N := some 111) (v := ?_) (a' := ?_) #[true, true, true, true, true, true, true, true, true, true, true, true, false, false] rfl rfl (any_of HT_.out (by kernel_rfl)) (fun _ _ _ h => h) (Or.inl ⟨by rfl, ?_⟩) ?_ ?_; rotate_left
                              ·intro w'; go_simp; with_reducible rfl
                              rotate_left
                              ·simp only [Act.put, List.setIfInBounds_toArray, List.set_cons_zero, List.set_cons_succ, i64_w, i32_w]; rfl
                              refine pure_ (i := 12) (N := some 112) (v := ?_) (a' := ?_) #[true, true, true, true, true, true, true, true, true, true, true, true, true, false] rfl rfl (any_of HT_.out (by kernel_rfl)) (fun _ _ _ h => h) (Or.inl ⟨by rfl, ?_⟩) ?_ ?_; rotate_left
                              ·intro w'; go_simp; with_reducible rfl
                              rotate_left
                              ·simp only [Act.put, List.setIfInBounds_toArray, List.set_cons_zero, List.set_cons_succ, i64_w, i32_w]; rfl
                              refine last_ (i := 13) (N := none) #[true, true, true, true, true, true, true, true, true, true, true, true, true, true] rfl rfl (one_of HT_.out (by kernel_rfl)) (by decide) (fun K hK => ?_); refine skip_ (w1 := ?_) (by rfl) rfl ?_ ?_; rotate_left
                              ·go_simp; rfl
                              refine hK.out _ _ ?_; clear hK K; refine done_ (done_of HT_.out (by kernel_rfl)) ?_; (try go_wp2)
                              (try simp only [← hl11_6])
                              go_roundg k6
                              case measure => have := HJ6.out; have := HJ12.out; have := HK3.out; have := HK4.out; have := HK5.out; have := HK6.out; omega
                              case rel => exact ⟨(y311), (wrap64 (x15_6 + 1)), (by first | rfl | (simp; done) | (simp [*]; done)), H', ⟨by have := HJ6.out; have := HJ12.out; have := HK3.out; have := HK4.out; have := HK5.out; have := HK6.out; omega⟩, ⟨by (try simp only [hl11_4]); (try simp only [hl11_5]); (try simp only [hl11_6]); (with_reducible repeat (first | apply Kd.V_alloc | apply Kd.V_drewN | apply Kd.V_drew)); exact Kd.V_mono (Kd.V_far (p := ⟨go35, (x14_5 : Int).toNat, none⟩) (Kd.V_mono HO_1.out (fun k_ hk => (⟨hk, fun e_ => hk.2.1 (by rw [e_]; rfl)⟩ : _ ∧ k_ ≠ go35))) (fun _ hk => hk.2) (.int .i64 ji48)) (fun _ hk => ⟨hk.1.1, ⟨hk.1.2.2, hk.1.2.1⟩⟩)⟩, ⟨by (try simp only [hl11_4]); (try simp only [hl11_5]); (try simp only [hl11_6]); (with_reducible repeat (first | apply Kd.R_alloc | apply Kd.R_drewN | apply Kd.R_drew)); exact Kd.R_mono (Kd.R_far (p := ⟨go35, (x14_5 : Int).toNat, none⟩) (Kd.R_mono HO_9.out (fun k_ hk => (⟨hk, fun e_ => hk.2 (by rw [e_]; rfl)⟩ : _ ∧ k_ ≠ go35))) (fun _ hk => hk.2) (.int .i64 ji48)) (fun _ hk => ⟨hk.1.1, hk.1.2⟩)⟩, ⟨by (try simp only [hl11_4]); (try simp only [hl11_5]); (try simp only [hl11_6]); (with_reducible repeat (first | apply Kd.R_alloc | apply Kd.R_drewN | apply Kd.R_drew)); exact HQ51.out⟩, ⟨by repeat (first | (with_reducible first | exact HB.out | apply below_alloc | apply pw_below_drewN | apply below_drew1 | refine below_set ?_ GB35.out) | exact HB.out)⟩⟩
                            ·rw [if_neg c47] at H; exact absurd H (by simp)
                           ·rw [if_neg c46] at H; exact absurd H (by simp)
                          ·replace c45 := Bool.eq_false_iff.mpr c45; subst c45
                           have H1 : (croftlaw42_SpanWays.l3 k6 (ji22) x1_6 a2 a3 t298 t299 x11_6 x13_4 x14_5 (wrap64 (x15_6 + 1))) = some r := by rw [if_neg (show ¬ (false = true) by decide)] at H; exact H
                           clear H; have H := H1; clear H1
                           as_aux_lemma =>
                            have H' := Aside0.mk H; clear H; have p307 : 0 ≤ (x15_6 : Int) := of_decide_eq_true (by first | (with_reducible assumption) | assumption); have q307 : x15_6 < (x11_6.length : Int) := of_decide_eq_true (by first | (with_reducible assumption) | assumption); obtain ⟨ad307, e307, hx307_0⟩ := Kd.at_int (Kd.R_reads' HO_11.out).2.2 x15_6 p307 q307; obtain rfl : (⟨go35, 0, none⟩ : Addr) = ad307 := (by injection e307)
                            (first | simp only [add_plain] at hx307_0 | simp only [add_at] at hx307_0 | simp only [Addr.add, Nat.zero_add] at hx307_0 | skip)
                            replace p307 := eq_true p307; replace q307 := eq_true q307
                            go_wp2_with (first | (go_at_call 13; (with_reducible refine (croftlaw42_joined.calls k6 _ _ x1_6 x14_5 x15_6 false _ ?side1 ?side2 A44.out).mono ?_); (case side1 => repeat (first | exact (Kd.V_reads' HO_1.out).2.2 | (with_reducible refine Kd.C_alloc ?_ _) | (with_reducible refine Kd.C_drewN ?_ _) | (with_reducible refine Kd.C_drew ?_))); (case side2 => exact (Kd.V_reads' HO_1.out).2.1); rintro e w' ⟨rfl, ⟨nd, rfl⟩⟩))
                            (try simp only [← hl11_6])
                            go_roundg k6
                            case measure => have := HJ6.out; have := HJ12.out; have := HK3.out; have := HK4.out; have := HK5.out; have := HK6.out; omega
                            case rel => exact ⟨(x11_6), (wrap64 (x15_6 + 1)), (by first | rfl | (simp; done) | (simp [*]; done)), H', ⟨by have := HJ6.out; have := HJ12.out; have := HK3.out; have := HK4.out; have := HK5.out; have := HK6.out; omega⟩, ⟨by (try simp only [hl11_4]); (try simp only [hl11_5]); (try simp only [hl11_6]); (with_reducible repeat (first | apply Kd.V_alloc | apply Kd.V_drewN | apply Kd.V_drew)); exact HO_1.out⟩, ⟨by (try simp only [hl11_4]); (try simp only [hl11_5]); (try simp only [hl11_6]); (with_reducible repeat (first | apply Kd.R_alloc | apply Kd.R_drewN | apply Kd.R_drew)); exact HO_9.out⟩, ⟨by (try simp only [hl11_4]); (try simp only [hl11_5]); (try simp only [hl11_6]); (with_reducible repeat (first | apply Kd.R_alloc | apply Kd.R_drewN | apply Kd.R_drew)); exact HO_11.out⟩, ⟨by repeat (first | (with_reducible first | exact HB.out | apply below_alloc | apply pw_below_drewN | apply below_drew1) | exact HB.out)⟩⟩
                         ·rw [if_neg c43] at H; have c43b0 : decide ((rd x11_6 x15_6) < 99) = false := decide_eq_false c43; clear c43
                          as_aux_lemma =>
                           have H' := Aside0.mk H; clear H; have p307 : 0 ≤ (x15_6 : Int) := of_decide_eq_true (by first | (with_reducible assumption) | assumption); have q307 : x15_6 < (x11_6.length : Int) := of_decide_eq_true (by first | (with_reducible assumption) | assumption); obtain ⟨ad307, e307, hx307_0⟩ := Kd.at_int (Kd.R_reads' HO_11.out).2.2 x15_6 p307 q307; obtain rfl : (⟨go35, 0, none⟩ : Addr) = ad307 := (by injection e307)
                           (first | simp only [add_plain] at hx307_0 | simp only [add_at] at hx307_0 | simp only [Addr.add, Nat.zero_add] at hx307_0 | skip)
                           replace p307 := eq_true p307; replace q307 := eq_true q307; go_wp2
                           (try simp only [← hl11_6])
                           go_roundg k6
                           case measure => have := HJ6.out; have := HJ12.out; have := HK3.out; have := HK4.out; have := HK5.out; have := HK6.out; omega
                           case rel => exact ⟨(x11_6), (wrap64 (x15_6 + 1)), (by first | rfl | (simp; done) | (simp [*]; done)), H', ⟨by have := HJ6.out; have := HJ12.out; have := HK3.out; have := HK4.out; have := HK5.out; have := HK6.out; omega⟩, ⟨by (try simp only [hl11_4]); (try simp only [hl11_5]); (try simp only [hl11_6]); (with_reducible repeat (first | apply Kd.V_alloc | apply Kd.V_drewN | apply Kd.V_drew)); exact HO_1.out⟩, ⟨by (try simp only [hl11_4]); (try simp only [hl11_5]); (try simp only [hl11_6]); (with_reducible repeat (first | apply Kd.R_alloc | apply Kd.R_drewN | apply Kd.R_drew)); exact HO_9.out⟩, ⟨by (try simp only [hl11_4]); (try simp only [hl11_5]); (try simp only [hl11_6]); (with_reducible repeat (first | apply Kd.R_alloc | apply Kd.R_drewN | apply Kd.R_drew)); exact HO_11.out⟩, ⟨by repeat (first | (with_reducible first | exact HB.out | apply below_alloc | apply pw_below_drewN | apply below_drew1) | exact HB.out)⟩⟩
                        ·rw [if_neg c42] at H; exact absurd H (by simp)
                       ·rw [if_neg c41] at H; exact absurd H (by simp)
                      ·rw [if_neg c40] at H; have c40b0 : decide (x15_6 < (ji22)) = false := decide_eq_false c40; clear c40
                       as_aux_lemma =>
                        have H' := Aside0.mk H; clear H; go_wp2
                        (try simp only [← hl11_5, ← hl11_6])
                        go_roundg k6
                        case measure => have := HJ6.out; have := HJ12.out; have := HK3.out; have := HK4.out; have := HK5.out; have := HK6.out; omega
                        case rel => exact ⟨(x11_6), (wrap64 (x14_5 + 1)), (by first | rfl | (simp; done) | (simp [*]; done)), H', ⟨by have := HJ6.out; have := HJ12.out; have := HK3.out; have := HK4.out; have := HK5.out; have := HK6.out; omega⟩, ⟨by (try simp only [hl11_4]); (try simp only [hl11_5]); (try simp only [hl11_6]); (with_reducible repeat (first | apply Kd.V_alloc | apply Kd.V_drewN | apply Kd.V_drew)); exact HO_1.out⟩, ⟨by (try simp only [hl11_4]); (try simp only [hl11_5]); (try simp only [hl11_6]); (with_reducible repeat (first | apply Kd.R_alloc | apply Kd.R_drewN | apply Kd.R_drew)); exact HO_9.out⟩, ⟨by (try simp only [hl11_4]); (try simp only [hl11_5]); (try simp only [hl11_6]); (with_reducible repeat (first | apply Kd.R_alloc | apply Kd.R_drewN | apply Kd.R_drew)); exact HO_11.out⟩, ⟨by repeat (first | (with_reducible first | exact HB.out | apply below_alloc | apply pw_below_drewN | apply below_drew1) | exact HB.out)⟩⟩
                   ·rw [if_neg c39] at H; have c39b0 : decide (x14_5 < (ji22)) = false := decide_eq_false c39; clear c39
                    as_aux_lemma =>
                     have H' := Aside0.mk H; clear H; go_wp2
                     (try simp only [← hl11_4, ← hl11_5])
                     go_roundg k5
                     case measure => have := HJ6.out; have := HJ12.out; have := HK3.out; have := HK4.out; have := HK5.out; omega
                     case rel => exact ⟨(x11_5), (wrap64 (x13_4 + 1)), (by first | rfl | (simp; done) | (simp [*]; done)), H', ⟨by have := HJ6.out; have := HJ12.out; have := HK3.out; have := HK4.out; have := HK5.out; omega⟩, ⟨by (try simp only [hl11_4]); (try simp only [hl11_5]); (with_reducible repeat (first | apply Kd.V_alloc | apply Kd.V_drewN | apply Kd.V_drew)); exact HO_1.out⟩, ⟨by (try simp only [hl11_4]); (try simp only [hl11_5]); (with_reducible repeat (first | apply Kd.R_alloc | apply Kd.R_drewN | apply Kd.R_drew)); exact HO_9.out⟩, ⟨by (try simp only [hl11_4]); (try simp only [hl11_5]); (with_reducible repeat (first | apply Kd.R_alloc | apply Kd.R_drewN | apply Kd.R_drew)); exact HO_11.out⟩, ⟨by repeat (first | (with_reducible first | exact HB.out | apply below_alloc | apply pw_below_drewN | apply below_drew1) | exact HB.out)⟩⟩
                ·rw [if_neg c38] at H; have c38b0 : decide (x13_4 < (ji22)) = false := decide_eq_false c38; clear c38
                 by_cases c52 : 0 ≤ a2
                 ·rw [if_pos c52] at H; have c52b0 : decide (0 ≤ a2) = true := decide_eq_true c52; clear c52
                  by_cases c53 : a2 < (x11_4.length : Int)
                  ·rw [if_pos c53] at H; have c53b0 : decide (a2 < (x11_4.length : Int)) = true := decide_eq_true c53
                   (try simp only [hl11_4] at c53b0)
                   clear c53
                   by_cases c54 : (rd x11_4 a2) = 99
                   ·rw [if_pos c54] at H; have c54b0 : ((rd x11_4 a2) == 99) = true := beq_iff_eq.mpr c54; have c54b1 : ((rd x11_4 a2) != 99) = false := bne_eq_false_iff_eq.mpr c54; clear c54
                    by_cases c55 : t299 = true
                    ·subst c55
                     have H1 : (some false) = some r := by rw [if_pos rfl] at H; exact H
                     clear H; have H := H1; clear H1
                     as_aux_lemma =>
                      obtain rfl := Option.some.inj H; have p312 : 0 ≤ (a2 : Int) := of_decide_eq_true (by first | (with_reducible assumption) | assumption); have q312 : a2 < (x11_4.length : Int) := of_decide_eq_true (by first | (with_reducible assumption) | assumption); obtain ⟨ad312, e312, hx312_0⟩ := Kd.at_int (Kd.R_reads' HO_11.out).2.2 a2 p312 q312; obtain rfl : (⟨go35, 0, none⟩ : Addr) = ad312 := (by injection e312)
                      (first | simp only [add_plain] at hx312_0 | simp only [add_at] at hx312_0 | simp only [Addr.add, Nat.zero_add] at hx312_0 | skip)
                      replace p312 := eq_true p312; replace q312 := eq_true q312; go_wp2; go_ret; exact ⟨by first | rfl | (simp [errW_none, errW_some] <;> rfl) | (simp only [← hji22]; first | rfl | (simp [errW_none, errW_some] <;> rfl)) | (simp [*, errW_none, errW_some] <;> rfl), by repeat (first | (with_reducible first | exact HB.out | apply below_alloc | apply pw_below_drewN | apply below_drew1) | exact HB.out)⟩
                    ·replace c55 := Bool.eq_false_iff.mpr c55; subst c55
                     have H1 : (some ((t298.length : Int) == 0)) = some r := by rw [if_neg (show ¬ (false = true) by decide)] at H; exact H
                     clear H; have H := H1; clear H1
                     as_aux_lemma =>
                      obtain rfl := Option.some.inj H; have p312 : 0 ≤ (a2 : Int) := of_decide_eq_true (by first | (with_reducible assumption) | assumption); have q312 : a2 < (x11_4.length : Int) := of_decide_eq_true (by first | (with_reducible assumption) | assumption); obtain ⟨ad312, e312, hx312_0⟩ := Kd.at_int (Kd.R_reads' HO_11.out).2.2 a2 p312 q312; obtain rfl : (⟨go35, 0, none⟩ : Addr) = ad312 := (by injection e312)
                      (first | simp only [add_plain] at hx312_0 | simp only [add_at] at hx312_0 | simp only [Addr.add, Nat.zero_add] at hx312_0 | skip)
                      replace p312 := eq_true p312; replace q312 := eq_true q312; obtain ⟨Ao56, co56, eo56⟩ := Kd.R_slice HO_9.out; subst eo56; go_wp2; go_ret; exact ⟨by first | rfl | (simp [errW_none, errW_some] <;> rfl) | (simp only [← hji22]; first | rfl | (simp [errW_none, errW_some] <;> rfl)) | (simp [*, errW_none, errW_some] <;> rfl), by repeat (first | (with_reducible first | exact HB.out | apply below_alloc | apply pw_below_drewN | apply below_drew1) | exact HB.out)⟩
                   ·rw [if_neg c54] at H; have c54b0 : ((rd x11_4 a2) == 99) = false := beq_eq_false_iff_ne.mpr c54; have c54b1 : ((rd x11_4 a2) != 99) = true := bne_iff_ne.mpr c54; have H' := Aside0.mk H; clear H; have p312 : 0 ≤ (a2 : Int) := of_decide_eq_true (by first | (with_reducible assumption) | assumption); have q312 : a2 < (x11_4.length : Int) := of_decide_eq_true (by first | (with_reducible assumption) | assumption); obtain ⟨ad312, e312, hx312_0⟩ := Kd.at_int (Kd.R_reads' HO_11.out).2.2 a2 p312 q312; obtain rfl : (⟨go35, 0, none⟩ : Addr) = ad312 := (by injection e312)
                    (first | simp only [add_plain] at hx312_0 | simp only [add_at] at hx312_0 | simp only [Addr.add, Nat.zero_add] at hx312_0 | skip)
                    replace p312 := eq_true p312; replace q312 := eq_true q312; go_wp2
                    go_loopg [16, 17] k4 (fun kq v16 v17 w' => ∃ (x16_5 : Int) (x17_5 : Int), v16 = .int .i64 x16_5 ∧ v17 = .int .i64 x17_5 ∧ Aside0 (croftlaw42_SpanWays.l4 kq (ji22) x1_6 a2 a3 t298 t299 x11_4 x16_5 x17_5 = some r) ∧ Aside0 (kq ≤ k4) ∧ Aside0 (Kd.V k31 31 w' w.heap.size (fun k_ => (P1_ k_ ∨ w.heap.size ≤ k_) ∧ some k_ ≠ (v300 : Value).ownBlock ∧ some k_ ≠ ((.slice (some ⟨go35, 0, none⟩) x11_4.length co35) : Value).ownBlock) (.slice Ao14 x1_6.length co14) x1_6) ∧ Aside0 (Kd.R (Kd.int .i64) 3 w' w.heap.size (fun k_ => (w.heap.size ≤ k_) ∧ some k_ ≠ ((.slice (some ⟨go35, 0, none⟩) x11_4.length co35) : Value).ownBlock) v300 t298) ∧ Aside0 (Kd.R (Kd.int .i64) 3 w' w.heap.size (fun k_ => (w.heap.size ≤ k_) ∧ some k_ ≠ (v300 : Value).ownBlock) (.slice (some ⟨go35, 0, none⟩) x11_4.length co35) x11_4) ∧ Aside0 (Below w.heap.size w w'))
                    case atStart => exact ⟨(a2), (0), (by first | rfl | (simp; done) | (simp [*]; done)), (by first | rfl | (simp; done) | (simp [*]; done)), H', ⟨Nat.le_refl _⟩, ⟨by (try simp only [hl11_4]); (with_reducible repeat (first | apply Kd.V_alloc | apply Kd.V_drewN | apply Kd.V_drew)); exact HO_1.out⟩, ⟨by (try simp only [hl11_4]); (with_reducible repeat (first | apply Kd.R_alloc | apply Kd.R_drewN | apply Kd.R_drew)); exact HO_9.out⟩, ⟨by (try simp only [hl11_4]); (with_reducible repeat (first | apply Kd.R_alloc | apply Kd.R_drewN | apply Kd.R_drew)); exact HO_11.out⟩, ⟨by repeat (first | (with_reducible first | exact HB.out | apply below_alloc | apply pw_below_drewN | apply below_drew1) | exact HB.out)⟩⟩
                    case round =>
                     clear H'; (try clear c1); (try clear q1); (try clear c2); (try clear p2); (try clear c3); (try clear p3); (try clear q3); (try clear hx3); (try clear c4); (try clear p4); (try clear q4); (try clear hx4); (try clear hf4); (try clear c5); (try clear c6); (try clear p6); (try clear c9); (try clear c9b0); (try clear c9b1); (try clear c10); (try clear c10b0); (try clear c10b1); (try clear q11); (try clear c12); (try clear c16); (try clear c16b0); (try clear c17); (try clear c17b0); (try clear c18); (try clear c18b0); (try clear c19); (try clear c20); (try clear c23); (try clear c23b0); (try clear c23b1); (try clear c24); (try clear c24b0); (try clear c24b1); (try clear c27); (try clear c27b0); (try clear c28); (try clear c28b0); (try clear c29); (try clear c29b0); (try clear p30); (try clear q30); (try clear hx30); (try clear hf30); (try clear p31); (try clear q31); (try clear hx31); (try clear c33); (try clear c33b0); (try clear c34); (try clear c34b0); (try clear p35); (try clear q35); (try clear hx35); (try clear hf35); (try clear c38); (try clear c38b0); (try clear c39); (try clear c39b0); (try clear c40); (try clear c40b0); (try clear c41); (try clear c41b0); (try clear c42); (try clear c42b0); (try clear c43); (try clear c43b0); (try clear c45); (try clear c46); (try clear c46b0); (try clear c47); (try clear c47b0); (try clear p49); (try clear q49); (try clear hx49); (try clear hf49); (try clear c52); (try clear c52b0); (try clear c53); (try clear c53b0); (try clear c54); (try clear c54b0); (try clear c54b1); (try clear c55); (try clear hx307_0); (try clear hx309_0); (try clear hx30_0); (try clear hx310_0); (try clear hx312_0); (try clear hx35_0); (try clear hx49_0)
                     (try clear p2); (try clear p3); (try clear p30); (try clear p307); (try clear p309); (try clear p310); (try clear p312); (try clear p35); (try clear p49); (try clear p6); (try clear q1); (try clear q11); (try clear q3); (try clear q30); (try clear q307); (try clear q309); (try clear q310); (try clear q312); (try clear q35); (try clear q49); obtain ⟨x16_5, x17_5, rfl, rfl, HA, HK5, HO_1, HO_9, HO_11, HB⟩ := hrel
                     cases gk with
                     | zero => exact absurd HA.out (by simp [croftlaw42_SpanWays.l4])
                     | succ k5 =>
                      have H := HA.out; clear HA; simp only [croftlaw42_SpanWays.l4] at H
                      by_cases c57 : x17_5 < (t298.length : Int)
                      ·rw [if_pos c57] at H; have c57b0 : decide (x17_5 < (t298.length : Int)) = true := decide_eq_true c57
                       (try simp only [hl11_4] at c57b0)
                       clear c57
                       by_cases c58 : 0 ≤ x17_5
                       ·rw [if_pos c58] at H; have c58b0 : decide (0 ≤ x17_5) = true := decide_eq_true c58; clear c58
                        by_cases c59 : (rd t298 x17_5) = x16_5
                        ·rw [if_pos c59] at H; have c59b0 : ((rd t298 x17_5) == x16_5) = true := beq_iff_eq.mpr c59; have c59b1 : ((rd t298 x17_5) != x16_5) = false := bne_eq_false_iff_eq.mpr c59; clear c59; have H' := Aside0.mk H; clear H; obtain ⟨Ao60, co60, eo60⟩ := Kd.R_slice HO_9.out; subst eo60; have p315 : 0 ≤ (x17_5 : Int) := of_decide_eq_true (by first | (with_reducible assumption) | assumption); have q315 : x17_5 < (t298.length : Int) := of_decide_eq_true (by first | (with_reducible assumption) | assumption); obtain ⟨ad315, e315, hx315_0⟩ := Kd.at_int (Kd.R_reads' HO_9.out).2.2 x17_5 p315 q315; cases e315; replace p315 := eq_true p315; replace q315 := eq_true q315; go_wp2
                         go_loopg [16, 18] k5 (fun kq v16 v18 w' => ∃ (x16_6 : Int) (x18_6 : Int), v16 = .int .i64 x16_6 ∧ v18 = .int .i64 x18_6 ∧ Aside0 (croftlaw42_SpanWays.l5 kq (ji22) x1_6 a2 a3 t298 t299 x11_4 x16_6 x17_5 x18_6 = some r) ∧ Aside0 (kq ≤ k5) ∧ Aside0 (Kd.V k31 31 w' w.heap.size (fun k_ => (P1_ k_ ∨ w.heap.size ≤ k_) ∧ some k_ ≠ ((.slice (some ad315) t298.length co60) : Value).ownBlock ∧ some k_ ≠ ((.slice (some ⟨go35, 0, none⟩) x11_4.length co35) : Value).ownBlock) (.slice Ao14 x1_6.length co14) x1_6) ∧ Aside0 (Kd.R (Kd.int .i64) 3 w' w.heap.size (fun k_ => (w.heap.size ≤ k_) ∧ some k_ ≠ ((.slice (some ⟨go35, 0, none⟩) x11_4.length co35) : Value).ownBlock) (.slice (some ad315) t298.length co60) t298) ∧ Aside0 (Kd.R (Kd.int .i64) 3 w' w.heap.size (fun k_ => (w.heap.size ≤ k_) ∧ some k_ ≠ ((.slice (some ad315) t298.length co60) : Value).ownBlock) (.slice (some ⟨go35, 0, none⟩) x11_4.length co35) x11_4) ∧ Aside0 (Below w.heap.size w w'))
                         case atStart => exact ⟨(x16_5), (wrap64 ((ji22) - 1)), (by first | rfl | (simp; done) | (simp [*]; done)), (by first | rfl | (simp; done) | (simp only [← hji22] <;> (first | rfl | simp)) | (simp [*]; done)), H', ⟨Nat.le_refl _⟩, ⟨by (try simp only [hl11_4]); (with_reducible repeat (first | apply Kd.V_alloc | apply Kd.V_drewN | apply Kd.V_drew)); exact HO_1.out⟩, ⟨by (try simp only [hl11_4]); (with_reducible repeat (first | apply Kd.R_alloc | apply Kd.R_drewN | apply Kd.R_drew)); exact HO_9.out⟩, ⟨by (try simp only [hl11_4]); (with_reducible repeat (first | apply Kd.R_alloc | apply Kd.R_drewN | apply Kd.R_drew)); exact HO_11.out⟩, ⟨by repeat (first | (with_reducible first | exact HB.out | apply below_alloc | apply pw_below_drewN | apply below_drew1) | exact HB.out)⟩⟩
                         case round =>
                          clear H'; (try clear c1); (try clear q1); (try clear c2); (try clear p2); (try clear c3); (try clear p3); (try clear q3); (try clear hx3); (try clear c4); (try clear p4); (try clear q4); (try clear hx4); (try clear hf4); (try clear c5); (try clear c6); (try clear p6); (try clear c9); (try clear c9b0); (try clear c9b1); (try clear c10); (try clear c10b0); (try clear c10b1); (try clear q11); (try clear c12); (try clear c16); (try clear c16b0); (try clear c17); (try clear c17b0); (try clear c18); (try clear c18b0); (try clear c19); (try clear c20); (try clear c23); (try clear c23b0); (try clear c23b1); (try clear c24); (try clear c24b0); (try clear c24b1); (try clear c27); (try clear c27b0); (try clear c28); (try clear c28b0); (try clear c29); (try clear c29b0); (try clear p30); (try clear q30); (try clear hx30); (try clear hf30); (try clear p31); (try clear q31); (try clear hx31); (try clear c33); (try clear c33b0); (try clear c34); (try clear c34b0); (try clear p35); (try clear q35); (try clear hx35); (try clear hf35); (try clear c38); (try clear c38b0); (try clear c39); (try clear c39b0); (try clear c40); (try clear c40b0); (try clear c41); (try clear c41b0); (try clear c42); (try clear c42b0); (try clear c43); (try clear c43b0); (try clear c45); (try clear c46); (try clear c46b0); (try clear c47); (try clear c47b0); (try clear p49); (try clear q49); (try clear hx49); (try clear hf49); (try clear c52); (try clear c52b0); (try clear c53); (try clear c53b0); (try clear c54); (try clear c54b0); (try clear c54b1); (try clear c55); (try clear c57); (try clear c57b0); (try clear c58); (try clear c58b0); (try clear c59); (try clear c59b0); (try clear c59b1); (try clear hx307_0)
                          (try clear hx309_0); (try clear hx30_0); (try clear hx310_0); (try clear hx312_0); (try clear hx315_0); (try clear hx35_0); (try clear hx49_0); (try clear p2); (try clear p3); (try clear p30); (try clear p307); (try clear p309); (try clear p31); (try clear p310); (try clear p312); (try clear p315); (try clear p35); (try clear p4); (try clear p49); (try clear p6); (try clear q1); (try clear q11); (try clear q3); (try clear q30); (try clear q307); (try clear q309); (try clear q31); (try clear q310); (try clear q312); (try clear q315); (try clear q35); (try clear q4); (try clear q49); obtain ⟨x16_6, x18_6, rfl, rfl, HA, HK6, HO_1, HO_9, HO_11, HB⟩ := hrel
                          cases gk with
                          | zero => exact absurd HA.out (by simp [croftlaw42_SpanWays.l5])
                          | succ k6 =>
                           have H := HA.out; clear HA; simp only [croftlaw42_SpanWays.l5] at H
                           by_cases c61 : x18_6 ≥ 0
                           ·rw [if_pos c61] at H; have c61b0 : decide (0 ≤ x18_6) = true := decide_eq_true c61; clear c61; have HC62 := Aside0.mk H; clear H
                            go_upto_region 37 with (fail)
                            go_cut [175] (fun v175 wc => ∃ (kq : Nat) (x175_61 : Bool), v175 = .bool x175_61 ∧ Aside0 (croftlaw42_SpanWays.j8 kq (ji22) x1_6 a2 a3 t298 t299 x11_4 x16_6 x17_5 x18_6 x175_61 = some r) ∧ Aside0 (kq ≤ k6) ∧ Aside0 (Kd.V k31 31 wc w.heap.size (fun k_ => (P1_ k_ ∨ w.heap.size ≤ k_) ∧ some k_ ≠ ((.slice (some ad315) t298.length co60) : Value).ownBlock ∧ some k_ ≠ ((.slice (some ⟨go35, 0, none⟩) x11_4.length co35) : Value).ownBlock) (.slice Ao14 x1_6.length co14) x1_6) ∧ Aside0 (Kd.R (Kd.int .i64) 3 wc w.heap.size (fun k_ => (w.heap.size ≤ k_) ∧ some k_ ≠ ((.slice (some ⟨go35, 0, none⟩) x11_4.length co35) : Value).ownBlock) (.slice (some ad315) t298.length co60) t298) ∧ Aside0 (Kd.R (Kd.int .i64) 3 wc w.heap.size (fun k_ => (w.heap.size ≤ k_) ∧ some k_ ≠ ((.slice (some ad315) t298.length co60) : Value).ownBlock) (.slice (some ⟨go35, 0, none⟩) x11_4.length co35) x11_4) ∧ Aside0 (Below w.heap.size w wc))
                            case first =>
                             have H := HC62.out; clear HC62
                             by_cases c63 : 0 ≤ x17_5
                             ·rw [if_pos c63] at H; have c63b0 : decide (0 ≤ x17_5) = true := decide_eq_true c63; clear c63
                              (first | rw [c63b0] | (simp only [i64_w, i32_w]; rw [c63b0]) | skip)
                              by_cases c64 : x17_5 < (t298.length : Int)
                              ·rw [if_pos c64] at H; have c64b0 : decide (x17_5 < (t298.length : Int)) = true := decide_eq_true c64
                               (try simp only [hl11_4] at c64b0)
                               clear c64
                               by_cases c65 : 0 ≤ (rd t298 x17_5)
                               ·rw [if_pos c65] at H; have c65b0 : decide (0 ≤ (rd t298 x17_5)) = true := decide_eq_true c65; clear c65
                                by_cases c66 : (rd t298 x17_5) < (x11_4.length : Int)
                                ·rw [if_pos c66] at H; have c66b0 : decide ((rd t298 x17_5) < (x11_4.length : Int)) = true := decide_eq_true c66
                                 (try simp only [hl11_4] at c66b0)
                                 clear c66
                                 by_cases c67 : (rd x11_4 (rd t298 x17_5)) > 0
                                 ·rw [if_pos c67] at H; have c67b0 : decide (0 < (rd x11_4 (rd t298 x17_5))) = true := decide_eq_true c67; clear c67
                                  by_cases c68 : 0 ≤ x18_6
                                  ·rw [if_pos c68] at H; have c68b0 : decide (0 ≤ x18_6) = true := decide_eq_true c68; clear c68
                                   by_cases c69 : x18_6 < (x11_4.length : Int)
                                   ·rw [if_pos c69] at H; have c69b0 : decide (x18_6 < (x11_4.length : Int)) = true := decide_eq_true c69
                                    (try simp only [hl11_4] at c69b0)
                                    clear c69
                                    by_cases c70 : (rd x11_4 x18_6) = (wrap64 ((rd x11_4 (rd t298 x17_5)) - 1))
                                    ·rw [if_pos c70] at H; have c70b0 : ((rd x11_4 x18_6) == (wrap64 ((rd x11_4 (rd t298 x17_5)) - 1))) = true := beq_iff_eq.mpr c70; have c70b1 : ((rd x11_4 x18_6) != (wrap64 ((rd x11_4 (rd t298 x17_5)) - 1))) = false := bne_eq_false_iff_eq.mpr c70; clear c70; replace H := Option.bind_eq_some_iff.mp H; obtain ⟨t322, A710, H⟩ := H; replace H : (croftlaw42_SpanWays.j8 k6 (ji22) x1_6 a2 a3 t298 t299 x11_4 x16_6 x17_5 x18_6 t322) = some r := H; have A71 := Aside0.mk A710; clear A710
                                     as_aux_lemma =>
                                      have H' := Aside0.mk H; clear H; (try go_wp2); have n0_ := Aside0.mk (Kd.V_drew HO_1.out); have n1_ := Aside0.mk (Kd.R_drew HO_9.out); have n2_ := Aside0.mk (Kd.R_drew HO_11.out); have n3_ := Aside0.mk (below_drew1 HB.out); clear HO_1; clear HO_9; clear HO_11; clear HB; have HO_1 := n0_; have HO_9 := n1_; have HO_11 := n2_; have HB := n3_; clear n0_ n1_ n2_ n3_; have p316 : 0 ≤ (x17_5 : Int) := of_decide_eq_true (by first | (with_reducible assumption) | assumption); have q316 : x17_5 < (t298.length : Int) := of_decide_eq_true (by first | (with_reducible assumption) | assumption); obtain ⟨ad316, e316, hx316_0⟩ := Kd.at_int (Kd.R_reads' HO_9.out).2.2 x17_5 p316 q316; obtain rfl : ad315 = ad316 := (by injection e316); replace p316 := eq_true p316; replace q316 := eq_true q316; have p317 : 0 ≤ ((rd t298 x17_5) : Int) := of_decide_eq_true (by first | (with_reducible assumption) | assumption); have q317 : (rd t298 x17_5) < (x11_4.length : Int) := of_decide_eq_true (by first | (with_reducible assumption) | assumption); obtain ⟨ad317, e317, hx317_0⟩ := Kd.at_int (Kd.R_reads' HO_11.out).2.2 (rd t298 x17_5) p317 q317; obtain rfl : (⟨go35, 0, none⟩ : Addr) = ad317 := (by injection e317)
                                      (first | simp only [add_plain] at hx317_0 | simp only [add_at] at hx317_0 | simp only [Addr.add, Nat.zero_add] at hx317_0 | skip)
                                      replace p317 := eq_true p317; replace q317 := eq_true q317; have p318 : 0 ≤ (x18_6 : Int) := of_decide_eq_true (by first | (with_reducible assumption) | assumption); have q318 : x18_6 < (x11_4.length : Int) := of_decide_eq_true (by first | (with_reducible assumption) | assumption); obtain ⟨ad318, e318, hx318_0⟩ := Kd.at_int (Kd.R_reads' HO_11.out).2.2 x18_6 p318 q318; obtain rfl : (⟨go35, 0, none⟩ : Addr) = ad318 := (by injection e318)
                                      (first | simp only [add_plain] at hx318_0 | simp only [add_at] at hx318_0 | simp only [Addr.add, Nat.zero_add] at hx318_0 | skip)
                                      replace p318 := eq_true p318; replace q318 := eq_true q318; have p319 : 0 ≤ (x17_5 : Int) := of_decide_eq_true (by first | (with_reducible assumption) | assumption); have q319 : x17_5 < (t298.length : Int) := of_decide_eq_true (by first | (with_reducible assumption) | assumption); obtain ⟨ad319, e319, hx319_0⟩ := Kd.at_int (Kd.R_reads' HO_9.out).2.2 x17_5 p319 q319; obtain rfl : ad315 = ad319 := (by injection e319); replace p319 := eq_true p319; replace q319 := eq_true q319; have p320 : 0 ≤ ((rd t298 x17_5) : Int) := of_decide_eq_true (by first | (with_reducible assumption) | assumption); have q320 : (rd t298 x17_5) < (x11_4.length : Int) := of_decide_eq_true (by first | (with_reducible assumption) | assumption); obtain ⟨ad320, e320, hx320_0⟩ := Kd.at_int (Kd.R_reads' HO_11.out).2.2 (rd t298 x17_5) p320 q320; obtain rfl : (⟨go35, 0, none⟩ : Addr) = ad320 := (by injection e320)
                                      (first | simp only [add_plain] at hx320_0 | simp only [add_at] at hx320_0 | simp only [Addr.add, Nat.zero_add] at hx320_0 | skip)
                                      replace p320 := eq_true p320; replace q320 := eq_true q320; have p321 : 0 ≤ (x17_5 : Int) := of_decide_eq_true (by first | (with_reducible assumption) | assumption); have q321 : x17_5 < (t298.length : Int) := of_decide_eq_true (by first | (with_reducible assumption) | assumption); obtain ⟨ad321, e321, hx321_0⟩ := Kd.at_int (Kd.R_reads' HO_9.out).2.2 x17_5 p321 q321; obtain rfl : ad315 = ad321 := (by injection e321); replace p321 := eq_true p321; replace q321 := eq_true q321; refine start_ (n := 32) (S := fun w' => w'.cell? (ad315.add (x17_5).toNat) = some (.int .i64 (rd t298 x17_5)) ∧ w'.cell? ⟨go35, ((rd t298 x17_5)).toNat, none⟩ = some (.int .i64 (rd x11_4 (rd t298 x17_5))) ∧ w'.cell? ⟨go35, (x18_6).toNat, none⟩ = some (.int .i64 (rd x11_4 x18_6)) ∧ w'.cell? (ad315.add (x17_5).toNat) = some (.int .i64 (rd t298 x17_5)) ∧ w'.cell? ⟨go35, ((rd t298 x17_5)).toNat, none⟩ = some (.int .i64 (rd x11_4 (rd t298 x17_5))) ∧ w'.cell? (ad315.add (x17_5).toNat) = some (.int .i64 (rd t298 x17_5))) (ds := []) #[false, false, false, false, false, false, false, false, false, false, false, false, false, false, false, false, false, false, false, false, false, false, false, false, false, false, false, false, false, false, false, false] (by kernel_rfl) rfl rfl ⟨hx316_0, hx317_0, hx318_0, hx319_0, hx320_0, hx321_0⟩ (fun hHeld => ?_); refine with_tabW croftlaw42_SpanWays.tab37 croftlaw42_SpanWays.bits37 (fun HT_ HW_ => ?_)
                                      generalize wr.drew = w72 at HO_1 HO_9 HO_11 HB hx316_0 hx317_0 hx318_0 hx319_0 hx320_0 hx321_0 hHeld ⊢
                                      refine pure_ (i := 0) (N := some 144) (v := ?_) (a' := ?_) #[true, false, false, false, false, false, false, false, false, false, false, false, false, false, false, false, false, false, false, false, false, false, false, false, false, false, false, false, false, false, false, false] rfl rfl (any_of HT_.out (by kernel_rfl)) (fun _ _ _ h => h) (Or.inl ⟨by rfl, ?_⟩) ?_ ?_; rotate_left
                                      ·intro w'; go_simp; with_reducible rfl
                                      rotate_left
                                      ·simp only [Act.put, List.setIfInBounds_toArray, List.set_cons_zero, List.set_cons_succ, i64_w, i32_w]; rfl
                                      refine pure_ (i := 1) (N := some 145) (v := ?_) (a' := ?_) #[true, true, false, false, false, false, false, false, false, false, false, false, false, false, false, false, false, false, false, false, false, false, false, false, false, false, false, false, false, false, false, false] rfl rfl (any_of HT_.out (by kernel_rfl)) (fun _ _ _ h => h) (Or.inl ⟨by rfl, ?_⟩) ?_ ?_; rotate_left
                                      ·intro w'; go_simp; with_reducible rfl
                                      rotate_left
                                      ·simp only [Act.put, List.setIfInBounds_toArray, List.set_cons_zero, List.set_cons_succ, i64_w, i32_w]; rfl
                                      refine pure_ (i := 2) (N := some 146) (v := ?_) (a' := ?_) #[true, true, true, false, false, false, false, false, false, false, false, false, false, false, false, false, false, false, false, false, false, false, false, false, false, false, false, false, false, false, false, false] rfl rfl (any_of HT_.out (by kernel_rfl)) (fun _ _ _ h => h) (Or.inl ⟨by rfl, ?_⟩) ?_ ?_; rotate_left
                                      ·intro w'; go_simp; with_reducible rfl
                                      rotate_left
                                      ·simp only [Act.put, List.setIfInBounds_toArray, List.set_cons_zero, List.set_cons_succ, i64_w, i32_w]; rfl
                                      refine pure_ (i := 3) (N := some 147) (v := ?_) (a' := ?_) #[true, true, true, true, false, false, false, false, false, false, false, false, false, false, false, false, false, false, false, false, false, false, false, false, false, false, false, false, false, false, false, false] rfl rfl (any_of HT_.out (by kernel_rfl)) (fun _ _ _ h => h) (Or.inl ⟨by rfl, ?_⟩) ?_ ?_; rotate_left
                                      ·intro w'; go_simp; with_reducible rfl
                                      rotate_left
                                      ·simp only [Act.put, List.setIfInBounds_toArray, List.set_cons_zero, List.set_cons_succ, i64_w, i32_w]; rfl
                                      refine take_ (i := 4) (N := some 148) (v := ?_) (a' := ?_) #[true, true, true, true, true, false, false, false, false, false, false, false, false, false, false, false, false, false, false, false, false, false, false, false, false, false, false, false, false, false, false, false] rfl rfl (take_ofW HT_.out HW_.out (by kernel_rfl)) (fun _ _ _ h => h) (Or.inl ⟨by rfl, ?_⟩) hHeld ?_ ?_; rotate_left
                                      ·rintro w' ⟨s0, s1, s2, s3, s4, s5⟩
                                       go_simp; with_reducible rfl
                                      rotate_left
                                      ·simp only [Act.put, List.setIfInBounds_toArray, List.set_cons_zero, List.set_cons_succ, i64_w, i32_w]; rfl
                                      refine pure_ (i := 5) (N := some 149) (v := ?_) (a' := ?_) #[true, true, true, true, true, true, false, false, false, false, false, false, false, false, false, false, false, false, false, false, false, false, false, false, false, false, false, false, false, false, false, false] rfl rfl (any_of HT_.out (by kernel_rfl)) (fun _ _ _ h => h) (Or.inl ⟨by rfl, ?_⟩) ?_ ?_; rotate_left
                                      ·intro w'; go_simp; with_reducible rfl
                                      rotate_left
                                      ·simp only [Act.put, List.setIfInBounds_toArray, List.set_cons_zero, List.set_cons_succ, i64_w, i32_w]; rfl
                                      refine take_ (i := 6) (N := some 150) (v := ?_) (a' := ?_) #[true, true, true, true, true, true, true, false, false, false, false, false, false, false, false, false, false, false, false, false, false, false, false, false, false, false, false, false, false, false, false, false] rfl rfl (take_ofW HT_.out HW_.out (by kernel_rfl)) (fun _ _ _ h => h) (Or.inl ⟨by rfl, ?_⟩) hHeld ?_ ?_; rotate_left
                                      ·rintro w' ⟨s0, s1, s2, s3, s4, s5⟩
                                       go_simp; with_reducible rfl
                                      rotate_left
                                      ·simp only [Act.put, List.setIfInBounds_toArray, List.set_cons_zero, List.set_cons_succ, i64_w, i32_w]; rfl
                                      refine pure_ (i := 7) (N := some 151) (v := ?_) (a' := ?_) #[true, true, true, true, true, true, true, true, false, false, false, false, false, false, false, false, false, false, false, false, false, false, false, false, false, false, false, false, false, false, false, false] rfl rfl (any_of HT_.out (by kernel_rfl)) (fun _ _ _ h => h) (Or.inl ⟨by rfl, ?_⟩) ?_ ?_; rotate_left
                                      ·intro w'; go_simp; with_reducible rfl
                                      rotate_left
                                      ·simp only [Act.put, List.setIfInBounds_toArray, List.set_cons_zero, List.set_cons_succ, i64_w, i32_w]; rfl
                                      refine pure_ (i := 8) (N := some 152) (v := ?_) (a' := ?_) #[true, true, true, true, true, true, true, true, true, false, false, false, false, false, false, false, false, false, false, false, false, false, false, false, false, false, false, false, false, false, false, false] rfl rfl (any_of HT_.out (by kernel_rfl)) (fun _ _ _ h => h) (Or.inl ⟨by rfl, ?_⟩) ?_ ?_; rotate_left
                                      ·intro w'; go_simp; with_reducible rfl
                                      rotate_left
                                      ·simp only [Act.put, List.setIfInBounds_toArray, List.set_cons_zero, List.set_cons_succ, i64_w, i32_w]; rfl
                                      refine pure_ (i := 9) (N := some 153) (v := ?_) (a' := ?_) #[true, true, true, true, true, true, true, true, true, true, false, false, false, false, false, false, false, false, false, false, false, false, false, false, false, false, false, false, false, false, false, false] rfl rfl (any_of HT_.out (by kernel_rfl)) (fun _ _ _ h => h) (Or.inl ⟨by rfl, ?_⟩) ?_ ?_; rotate_left
                                      ·intro w'; go_simp; with_reducible rfl
                                      rotate_left
                                      ·simp only [Act.put, List.setIfInBounds_toArray, List.set_cons_zero, List.set_cons_succ, i64_w, i32_w]; rfl
                                      refine pure_ (i := 10) (N := some 154) (v := ?_) (a' := ?_) #[true, true, true, true, true, true, true, true, true, true, true, false, false, false, false, false, false, false, false, false, false, false, false, false, false, false, false, false, false, false, false, false] rfl rfl (any_of HT_.out (by kernel_rfl)) (fun _ _ _ h => h) (Or.inl ⟨by rfl, ?_⟩) ?_ ?_; rotate_left
                                      ·intro w'; go_simp; with_reducible rfl
                                      rotate_left
                                      ·simp only [Act.put, List.setIfInBounds_toArray, List.set_cons_zero, List.set_cons_succ, i64_w, i32_w]; rfl
                                      refine pure_ (i := 11) (N := some 155) (v := ?_) (a' := ?_) #[true, true, true, true, true, true, true, true, true, true, true, true, false, false, false, false, false, false, false, false, false, false, false, false, false, false, false, false, false, false, false, false] rfl rfl (any_of HT_.out (by kernel_rfl)) (fun _ _ _ h => h) (Or.inl ⟨by rfl, ?_⟩) ?_ ?_; rotate_left
                                      ·intro w'; go_simp; with_reducible rfl
                                      rotate_left
                                      ·simp only [Act.put, List.setIfInBounds_toArray, List.set_cons_zero, List.set_cons_succ, i64_w, i32_w]; rfl
                                      refine pure_ (i := 13) (N := some 157) (v := ?_) (a' := ?_) #[true, true, true, true, true, true, true, true, true, true, true, true, false, true, false, false, false, false, false, false, false, false, false, false, false, false, false, false, false, false, false, false] rfl rfl (any_of HT_.out (by kernel_rfl)) (fun _ _ _ h => h) (Or.inl ⟨by rfl, ?_⟩) ?_ ?_; rotate_left
                                      ·intro w'; go_simp; with_reducible rfl
                                      rotate_left
                                      ·simp only [Act.put, List.setIfInBounds_toArray, List.set_cons_zero, List.set_cons_succ, i64_w, i32_w]; rfl
                                      refine pure_ (i := 14) (N := some 158) (v := ?_) (a' := ?_) #[true, true, true, true, true, true, true, true, true, true, true, true, false, true, true, false, false, false, false, false, false, false, false, false, false, false, false, false, false, false, false, false] rfl rfl (any_of HT_.out (by kernel_rfl)) (fun _ _ _ h => h) (Or.inl ⟨by rfl, ?_⟩) ?_ ?_; rotate_left
                                      ·intro w'; go_simp; with_reducible rfl
                                      rotate_left
                                      ·simp only [Act.put, List.setIfInBounds_toArray, List.set_cons_zero, List.set_cons_succ, i64_w, i32_w]; rfl
                                      refine pure_ (i := 15) (N := some 159) (v := ?_) (a' := ?_) #[true, true, true, true, true, true, true, true, true, true, true, true, false, true, true, true, false, false, false, false, false, false, false, false, false, false, false, false, false, false, false, false] rfl rfl (any_of HT_.out (by kernel_rfl)) (fun _ _ _ h => h) (Or.inl ⟨by rfl, ?_⟩) ?_ ?_; rotate_left
                                      ·intro w'; go_simp; with_reducible rfl
                                      rotate_left
                                      ·simp only [Act.put, List.setIfInBounds_toArray, List.set_cons_zero, List.set_cons_succ, i64_w, i32_w]; rfl
                                      refine pure_ (i := 16) (N := some 160) (v := ?_) (a' := ?_) #[true, true, true, true, true, true, true, true, true, true, true, true, false, true, true, true, true, false, false, false, false, false, false, false, false, false, false, false, false, false, false, false] rfl rfl (any_of HT_.out (by kernel_rfl)) (fun _ _ _ h => h) (Or.inl ⟨by rfl, ?_⟩) ?_ ?_; rotate_left
                                      ·intro w'; go_simp; with_reducible rfl
                                      rotate_left
                                      ·simp only [Act.put, List.setIfInBounds_toArray, List.set_cons_zero, List.set_cons_succ, i64_w, i32_w]; rfl
                                      refine take_ (i := 12) (N := some 156) (v := ?_) (a' := ?_) #[true, true, true, true, true, true, true, true, true, true, true, true, true, true, true, true, true, false, false, false, false, false, false, false, false, false, false, false, false, false, false, false] rfl rfl (take_ofW HT_.out HW_.out (by kernel_rfl)) (fun _ _ _ h => h) (Or.inl ⟨by rfl, ?_⟩) hHeld ?_ ?_; rotate_left
                                      ·rintro w' ⟨s0, s1, s2, s3, s4, s5⟩
                                       go_simp; with_reducible rfl
                                      rotate_left
                                      ·simp only [Act.put, List.setIfInBounds_toArray, List.set_cons_zero, List.set_cons_succ, i64_w, i32_w]; rfl
                                      refine take_ (i := 17) (N := some 161) (v := ?_) (a' := ?_) #[true, true, true, true, true, true, true, true, true, true, true, true, true, true, true, true, true, true, false, false, false, false, false, false, false, false, false, false, false, false, false, false] rfl rfl (take_ofW HT_.out HW_.out (by kernel_rfl)) (fun _ _ _ h => h) (Or.inl ⟨by rfl, ?_⟩) hHeld ?_ ?_; rotate_left
                                      ·rintro w' ⟨s0, s1, s2, s3, s4, s5⟩
                                       go_simp; with_reducible rfl
                                      rotate_left
                                      ·simp only [Act.put, List.setIfInBounds_toArray, List.set_cons_zero, List.set_cons_succ, i64_w, i32_w]; rfl
                                      refine pure_ (i := 18) (N := some 162) (v := ?_) (a' := ?_) #[true, true, true, true, true, true, true, true, true, true, true, true, true, true, true, true, true, true, true, false, false, false, false, false, false, false, false, false, false, false, false, false] rfl rfl (any_of HT_.out (by kernel_rfl)) (fun _ _ _ h => h) (Or.inl ⟨by rfl, ?_⟩) ?_ ?_; rotate_left
                                      ·intro w'; go_simp; with_reducible rfl
                                      rotate_left
                                      ·simp only [Act.put, List.setIfInBounds_toArray, List.set_cons_zero, List.set_cons_succ, i64_w, i32_w]; rfl
                                      refine take_ (i := 19) (N := some 163) (v := ?_) (a' := ?_) #[true, true, true, true, true, true, true, true, true, true, true, true, true, true, true, true, true, true, true, true, false, false, false, false, false, false, false, false, false, false, false, false] rfl rfl (take_ofW HT_.out HW_.out (by kernel_rfl)) (fun _ _ _ h => h) (Or.inl ⟨by rfl, ?_⟩) hHeld ?_ ?_; rotate_left
                                      ·rintro w' ⟨s0, s1, s2, s3, s4, s5⟩
                                       go_simp; with_reducible rfl
                                      rotate_left
                                      ·simp only [Act.put, List.setIfInBounds_toArray, List.set_cons_zero, List.set_cons_succ, i64_w, i32_w]; rfl
                                      refine pure_ (i := 20) (N := some 164) (v := ?_) (a' := ?_) #[true, true, true, true, true, true, true, true, true, true, true, true, true, true, true, true, true, true, true, true, true, false, false, false, false, false, false, false, false, false, false, false] rfl rfl (any_of HT_.out (by kernel_rfl)) (fun _ _ _ h => h) (Or.inl ⟨by rfl, ?_⟩) ?_ ?_; rotate_left
                                      ·intro w'; go_simp; with_reducible rfl
                                      rotate_left
                                      ·simp only [Act.put, List.setIfInBounds_toArray, List.set_cons_zero, List.set_cons_succ, i64_w, i32_w]; rfl
                                      refine pure_ (i := 21) (N := some 165) (v := ?_) (a' := ?_) #[true, true, true, true, true, true, true, true, true, true, true, true, true, true, true, true, true, true, true, true, true, true, false, false, false, false, false, false, false, false, false, false] rfl rfl (any_of HT_.out (by kernel_rfl)) (fun _ _ _ h => h) (Or.inl ⟨by rfl, ?_⟩) ?_ ?_; rotate_left
                                      ·intro w'; go_simp; with_reducible rfl
                                      rotate_left
                                      ·simp only [Act.put, List.setIfInBounds_toArray, List.set_cons_zero, List.set_cons_succ, i64_w, i32_w]; rfl
                                      refine pure_ (i := 22) (N := some 166) (v := ?_) (a' := ?_) #[true, true, true, true, true, true, true, true, true, true, true, true, true, true, true, true, true, true, true, true, true, true, true, false, false, false, false, false, false, false, false, false] rfl rfl (any_of HT_.out (by kernel_rfl)) (fun _ _ _ h => h) (Or.inl ⟨by rfl, ?_⟩) ?_ ?_; rotate_left
                                      ·intro w'; go_simp; with_reducible rfl
                                      rotate_left
                                      ·simp only [Act.put, List.setIfInBounds_toArray, List.set_cons_zero, List.set_cons_succ, i64_w, i32_w]; rfl
                                      refine pure_ (i := 23) (N := some 167) (v := ?_) (a' := ?_) #[true, true, true, true, true, true, true, true, true, true, true, true, true, true, true, true, true, true, true, true, true, true, true, true, false, false, false, false, false, false, false, false] rfl rfl (any_of HT_.out (by kernel_rfl)) (fun _ _ _ h => h) (Or.inl ⟨by rfl, ?_⟩) ?_ ?_; rotate_left
                                      ·intro w'; go_simp; with_reducible rfl
                                      rotate_left
                                      ·simp only [Act.put, List.setIfInBounds_toArray, List.set_cons_zero, List.set_cons_succ, i64_w, i32_w]; rfl
                                      refine pure_ (i := 24) (N := some 168) (v := ?_) (a' := ?_) #[true, true, true, true, true, true, true, true, true, true, true, true, true, true, true, true, true, true, true, true, true, true, true, true, true, false, false, false, false, false, false, false] rfl rfl (any_of HT_.out (by kernel_rfl)) (fun _ _ _ h => h) (Or.inl ⟨by rfl, ?_⟩) ?_ ?_; rotate_left
                                      ·intro w'; go_simp; with_reducible rfl
                                      rotate_left
                                      ·simp only [Act.put, List.setIfInBounds_toArray, List.set_cons_zero, List.set_cons_succ, i64_w, i32_w]; rfl
                                      refine pure_ (i := 25) (N := some 169) (v := ?_) (a' := ?_) #[true, true, true, true, true, true, true, true, true, true, true, true, true, true, true, true, true, true, true, true, true, true, true, true, true, true, false, false, false, false, false, false] rfl rfl (any_of HT_.out (by kernel_rfl)) (fun _ _ _ h => h) (Or.inl ⟨by rfl, ?_⟩) ?_ ?_; rotate_left
                                      ·intro w'; go_simp; with_reducible rfl
                                      rotate_left
                                      ·simp only [Act.put, List.setIfInBounds_toArray, List.set_cons_zero, List.set_cons_succ, i64_w, i32_w]; rfl
                                      refine pure_ (i := 26) (N := some 170) (v := ?_) (a' := ?_) #[true, true, true, true, true, true, true, true, true, true, true, true, true, true, true, true, true, true, true, true, true, true, true, true, true, true, true, false, false, false, false, false] rfl rfl (any_of HT_.out (by kernel_rfl)) (fun _ _ _ h => h) (Or.inl ⟨by rfl, ?_⟩) ?_ ?_; rotate_left
                                      ·intro w'; go_simp; with_reducible rfl
                                      rotate_left
                                      ·simp only [Act.put, List.setIfInBounds_toArray, List.set_cons_zero, List.set_cons_succ, i64_w, i32_w]; rfl
                                      refine pure_ (i := 27) (N := some 171) (v := ?_) (a' := ?_) #[true, true, true, true, true, true, true, true, true, true, true, true, true, true, true, true, true, true, true, true, true, true, true, true, true, true, true, true, false, false, false, false] rfl rfl (any_of HT_.out (by kernel_rfl)) (fun _ _ _ h => h) (Or.inl ⟨by rfl, ?_⟩) ?_ ?_; rotate_left
                                      ·intro w'; go_simp; with_reducible rfl
                                      rotate_left
                                      ·simp only [Act.put, List.setIfInBounds_toArray, List.set_cons_zero, List.set_cons_succ, i64_w, i32_w]; rfl
                                      refine pure_ (i := 29) (N := some 173) (v := ?_) (a' := ?_) #[true, true, true, true, true, true, true, true, true, true, true, true, true, true, true, true, true, true, true, true, true, true, true, true, true, true, true, true, false, true, false, false] rfl rfl (any_of HT_.out (by kernel_rfl)) (fun _ _ _ h => h) (Or.inl ⟨by rfl, ?_⟩) ?_ ?_; rotate_left
                                      ·intro w'; go_simp; with_reducible rfl
                                      rotate_left
                                      ·simp only [Act.put, List.setIfInBounds_toArray, List.set_cons_zero, List.set_cons_succ, i64_w, i32_w]; rfl
                                      refine take_ (i := 28) (N := some 172) (v := ?_) (a' := ?_) #[true, true, true, true, true, true, true, true, true, true, true, true, true, true, true, true, true, true, true, true, true, true, true, true, true, true, true, true, true, true, false, false] rfl rfl (take_ofW HT_.out HW_.out (by kernel_rfl)) (fun _ _ _ h => h) (Or.inl ⟨by rfl, ?_⟩) hHeld ?_ ?_; rotate_left
                                      ·rintro w' ⟨s0, s1, s2, s3, s4, s5⟩
                                       go_simp; with_reducible rfl
                                      rotate_left
                                      ·simp only [Act.put, List.setIfInBounds_toArray, List.set_cons_zero, List.set_cons_succ, i64_w, i32_w]; rfl
                                      refine one_ (i := 30) (N := some 174) #[true, true, true, true, true, true, true, true, true, true, true, true, true, true, true, true, true, true, true, true, true, true, true, true, true, true, true, true, true, true, true, false] rfl rfl (one_of HT_.out (by kernel_rfl)) (by decide) (fun K hK => ?_); refine goes_ Try.func13 (by kernel_rfl) rfl #[.slice Ao14 x1_6.length co14, .int .i64 (rd t298 x17_5), .int .i64 x18_6] (by rfl) rfl rfl (by (try simp only [List.map_toArray, List.map_cons, List.map_nil]); first | done | rfl | (simp only [List.length_drop, List.length_take]; rfl)) ?_
                                      with_reducible refine (croftlaw42_joined.calls k6 _ _ x1_6 (rd t298 x17_5) x18_6 t322 _ ?side1 ?side2 A71.out).mono ?_
                                      (case side1 => repeat (first | exact (Kd.V_reads' HO_1.out).2.2 | (with_reducible refine Kd.C_alloc ?_ _) | (with_reducible refine Kd.C_drewN ?_ _) | (with_reducible refine Kd.C_drew ?_)))
                                      (case side2 => exact (Kd.V_reads' HO_1.out).2.1)
                                      rintro e w' ⟨rfl, ⟨nd, rfl⟩⟩
                                      refine ⟨_, rfl, ?_⟩; refine hK.out _ _ ⟨hHeld.1, hHeld.2.1, hHeld.2.2.1, hHeld.2.2.2.1, hHeld.2.2.2.2.1, hHeld.2.2.2.2.2⟩ (fun hHeld => ?_); clear hK K; refine norm_ (a' := ?_) ?_ ?_; rotate_left
                                      ·show Act.put _ (some 174) _ = _
                                       simp only [Act.put, List.setIfInBounds_toArray, List.set_cons_zero, List.set_cons_succ, i64_w, i32_w]; rfl
                                      refine pure_ (i := 31) (N := some 175) (v := ?_) (a' := ?_) #[true, true, true, true, true, true, true, true, true, true, true, true, true, true, true, true, true, true, true, true, true, true, true, true, true, true, true, true, true, true, true, true] rfl rfl (any_of HT_.out (by kernel_rfl)) (fun _ _ _ h => h) (Or.inl ⟨by rfl, ?_⟩) ?_ ?_; rotate_left
                                      ·intro w'; go_simp; with_reducible rfl
                                      rotate_left
                                      ·simp only [Act.put, List.setIfInBounds_toArray, List.set_cons_zero, List.set_cons_succ, i64_w, i32_w]; rfl
                                      refine done_ (done_of HT_.out (by kernel_rfl)) ?_; (try go_wp2)
                                      go_meet
                                      case rel => exact ⟨_, (t322), (by first | rfl | (simp; done) | (simp [*]; done)), H', ⟨by have := HJ6.out; have := HJ12.out; have := HK3.out; have := HK4.out; have := HK5.out; have := HK6.out; first | omega | exact Nat.le_refl _⟩, ⟨by (try simp only [hl11_4]); (with_reducible repeat (first | apply Kd.V_alloc | apply Kd.V_drewN | apply Kd.V_drew)); exact HO_1.out⟩, ⟨by (try simp only [hl11_4]); (with_reducible repeat (first | apply Kd.R_alloc | apply Kd.R_drewN | apply Kd.R_drew)); exact HO_9.out⟩, ⟨by (try simp only [hl11_4]); (with_reducible repeat (first | apply Kd.R_alloc | apply Kd.R_drewN | apply Kd.R_drew)); exact HO_11.out⟩, ⟨by repeat (first | (with_reducible first | exact HB.out | apply below_alloc | apply pw_below_drewN | apply below_drew1) | exact HB.out)⟩⟩
                                    ·rw [if_neg c70] at H; have c70b0 : ((rd x11_4 x18_6) == (wrap64 ((rd x11_4 (rd t298 x17_5)) - 1))) = false := beq_eq_false_iff_ne.mpr c70; have c70b1 : ((rd x11_4 x18_6) != (wrap64 ((rd x11_4 (rd t298 x17_5)) - 1))) = true := bne_iff_ne.mpr c70
                                     as_aux_lemma =>
                                      have H' := Aside0.mk H; clear H; (try go_wp2); have n0_ := Aside0.mk (Kd.V_drew HO_1.out); have n1_ := Aside0.mk (Kd.R_drew HO_9.out); have n2_ := Aside0.mk (Kd.R_drew HO_11.out); have n3_ := Aside0.mk (below_drew1 HB.out); clear HO_1; clear HO_9; clear HO_11; clear HB; have HO_1 := n0_; have HO_9 := n1_; have HO_11 := n2_; have HB := n3_; clear n0_ n1_ n2_ n3_; have p316 : 0 ≤ (x17_5 : Int) := of_decide_eq_true (by first | (with_reducible assumption) | assumption); have q316 : x17_5 < (t298.length : Int) := of_decide_eq_true (by first | (with_reducible assumption) | assumption); obtain ⟨ad316, e316, hx316_0⟩ := Kd.at_int (Kd.R_reads' HO_9.out).2.2 x17_5 p316 q316; obtain rfl : ad315 = ad316 := (by injection e316); replace p316 := eq_true p316; replace q316 := eq_true q316; have p317 : 0 ≤ ((rd t298 x17_5) : Int) := of_decide_eq_true (by first | (with_reducible assumption) | assumption); have q317 : (rd t298 x17_5) < (x11_4.length : Int) := of_decide_eq_true (by first | (with_reducible assumption) | assumption); obtain ⟨ad317, e317, hx317_0⟩ := Kd.at_int (Kd.R_reads' HO_11.out).2.2 (rd t298 x17_5) p317 q317; obtain rfl : (⟨go35, 0, none⟩ : Addr) = ad317 := (by injection e317)
                                      (first | simp only [add_plain] at hx317_0 | simp only [add_at] at hx317_0 | simp only [Addr.add, Nat.zero_add] at hx317_0 | skip)
                                      replace p317 := eq_true p317; replace q317 := eq_true q317; have p318 : 0 ≤ (x18_6 : Int) := of_decide_eq_true (by first | (with_reducible assumption) | assumption); have q318 : x18_6 < (x11_4.length : Int) := of_decide_eq_true (by first | (with_reducible assumption) | assumption); obtain ⟨ad318, e318, hx318_0⟩ := Kd.at_int (Kd.R_reads' HO_11.out).2.2 x18_6 p318 q318; obtain rfl : (⟨go35, 0, none⟩ : Addr) = ad318 := (by injection e318)
                                      (first | simp only [add_plain] at hx318_0 | simp only [add_at] at hx318_0 | simp only [Addr.add, Nat.zero_add] at hx318_0 | skip)
                                      replace p318 := eq_true p318; replace q318 := eq_true q318; have p319 : 0 ≤ (x17_5 : Int) := of_decide_eq_true (by first | (with_reducible assumption) | assumption); have q319 : x17_5 < (t298.length : Int) := of_decide_eq_true (by first | (with_reducible assumption) | assumption); obtain ⟨ad319, e319, hx319_0⟩ := Kd.at_int (Kd.R_reads' HO_9.out).2.2 x17_5 p319 q319; obtain rfl : ad315 = ad319 := (by injection e319); replace p319 := eq_true p319; replace q319 := eq_true q319; have p320 : 0 ≤ ((rd t298 x17_5) : Int) := of_decide_eq_true (by first | (with_reducible assumption) | assumption); have q320 : (rd t298 x17_5) < (x11_4.length : Int) := of_decide_eq_true (by first | (with_reducible assumption) | assumption); obtain ⟨ad320, e320, hx320_0⟩ := Kd.at_int (Kd.R_reads' HO_11.out).2.2 (rd t298 x17_5) p320 q320; obtain rfl : (⟨go35, 0, none⟩ : Addr) = ad320 := (by injection e320)
                                      (first | simp only [add_plain] at hx320_0 | simp only [add_at] at hx320_0 | simp only [Addr.add, Nat.zero_add] at hx320_0 | skip)
                                      replace p320 := eq_true p320; replace q320 := eq_true q320; refine start_ (n := 32) (S := fun w' => w'.cell? (ad315.add (x17_5).toNat) = some (.int .i64 (rd t298 x17_5)) ∧ w'.cell? ⟨go35, ((rd t298 x17_5)).toNat, none⟩ = some (.int .i64 (rd x11_4 (rd t298 x17_5))) ∧ w'.cell? ⟨go35, (x18_6).toNat, none⟩ = some (.int .i64 (rd x11_4 x18_6)) ∧ w'.cell? (ad315.add (x17_5).toNat) = some (.int .i64 (rd t298 x17_5)) ∧ w'.cell? ⟨go35, ((rd t298 x17_5)).toNat, none⟩ = some (.int .i64 (rd x11_4 (rd t298 x17_5)))) (ds := []) #[false, false, false, false, false, false, false, false, false, false, false, false, false, false, false, false, false, false, false, false, false, false, false, false, false, false, false, false, false, false, false, false] (by kernel_rfl) rfl rfl ⟨hx316_0, hx317_0, hx318_0, hx319_0, hx320_0⟩ (fun hHeld => ?_); refine with_tabW croftlaw42_SpanWays.tab37 croftlaw42_SpanWays.bits37 (fun HT_ HW_ => ?_)
                                      generalize wr.drew = w73 at HO_1 HO_9 HO_11 HB hx316_0 hx317_0 hx318_0 hx319_0 hx320_0 hHeld ⊢
                                      refine pure_ (i := 0) (N := some 144) (v := ?_) (a' := ?_) #[true, false, false, false, false, false, false, false, false, false, false, false, false, false, false, false, false, false, false, false, false, false, false, false, false, false, false, false, false, false, false, false] rfl rfl (any_of HT_.out (by kernel_rfl)) (fun _ _ _ h => h) (Or.inl ⟨by rfl, ?_⟩) ?_ ?_; rotate_left
                                      ·intro w'; go_simp; with_reducible rfl
                                      rotate_left
                                      ·simp only [Act.put, List.setIfInBounds_toArray, List.set_cons_zero, List.set_cons_succ, i64_w, i32_w]; rfl
                                      refine pure_ (i := 1) (N := some 145) (v := ?_) (a' := ?_) #[true, true, false, false, false, false, false, false, false, false, false, false, false, false, false, false, false, false, false, false, false, false, false, false, false, false, false, false, false, false, false, false] rfl rfl (any_of HT_.out (by kernel_rfl)) (fun _ _ _ h => h) (Or.inl ⟨by rfl, ?_⟩) ?_ ?_; rotate_left
                                      ·intro w'; go_simp; with_reducible rfl
                                      rotate_left
                                      ·simp only [Act.put, List.setIfInBounds_toArray, List.set_cons_zero, List.set_cons_succ, i64_w, i32_w]; rfl
                                      refine pure_ (i := 2) (N := some 146) (v := ?_) (a' := ?_) #[true, true, true, false, false, false, false, false, false, false, false, false, false, false, false, false, false, false, false, false, false, false, false, false, false, false, false, false, false, false, false, false] rfl rfl (any_of HT_.out (by kernel_rfl)) (fun _ _ _ h => h) (Or.inl ⟨by rfl, ?_⟩) ?_ ?_; rotate_left
                                      ·intro w'; go_simp; with_reducible rfl
                                      rotate_left
                                      ·simp only [Act.put, List.setIfInBounds_toArray, List.set_cons_zero, List.set_cons_succ, i64_w, i32_w]; rfl
                                      refine pure_ (i := 3) (N := some 147) (v := ?_) (a' := ?_) #[true, true, true, true, false, false, false, false, false, false, false, false, false, false, false, false, false, false, false, false, false, false, false, false, false, false, false, false, false, false, false, false] rfl rfl (any_of HT_.out (by kernel_rfl)) (fun _ _ _ h => h) (Or.inl ⟨by rfl, ?_⟩) ?_ ?_; rotate_left
                                      ·intro w'; go_simp; with_reducible rfl
                                      rotate_left
                                      ·simp only [Act.put, List.setIfInBounds_toArray, List.set_cons_zero, List.set_cons_succ, i64_w, i32_w]; rfl
                                      refine take_ (i := 4) (N := some 148) (v := ?_) (a' := ?_) #[true, true, true, true, true, false, false, false, false, false, false, false, false, false, false, false, false, false, false, false, false, false, false, false, false, false, false, false, false, false, false, false] rfl rfl (take_ofW HT_.out HW_.out (by kernel_rfl)) (fun _ _ _ h => h) (Or.inl ⟨by rfl, ?_⟩) hHeld ?_ ?_; rotate_left
                                      ·rintro w' ⟨s0, s1, s2, s3, s4⟩
                                       go_simp; with_reducible rfl
                                      rotate_left
                                      ·simp only [Act.put, List.setIfInBounds_toArray, List.set_cons_zero, List.set_cons_succ, i64_w, i32_w]; rfl
                                      refine pure_ (i := 5) (N := some 149) (v := ?_) (a' := ?_) #[true, true, true, true, true, true, false, false, false, false, false, false, false, false, false, false, false, false, false, false, false, false, false, false, false, false, false, false, false, false, false, false] rfl rfl (any_of HT_.out (by kernel_rfl)) (fun _ _ _ h => h) (Or.inl ⟨by rfl, ?_⟩) ?_ ?_; rotate_left
                                      ·intro w'; go_simp; with_reducible rfl
                                      rotate_left
                                      ·simp only [Act.put, List.setIfInBounds_toArray, List.set_cons_zero, List.set_cons_succ, i64_w, i32_w]; rfl
                                      refine take_ (i := 6) (N := some 150) (v := ?_) (a' := ?_) #[true, true, true, true, true, true, true, false, false, false, false, false, false, false, false, false, false, false, false, false, false, false, false, false, false, false, false, false, false, false, false, false] rfl rfl (take_ofW HT_.out HW_.out (by kernel_rfl)) (fun _ _ _ h => h) (Or.inl ⟨by rfl, ?_⟩) hHeld ?_ ?_; rotate_left
                                      ·rintro w' ⟨s0, s1, s2, s3, s4⟩
                                       go_simp; with_reducible rfl
                                      rotate_left
                                      ·simp only [Act.put, List.setIfInBounds_toArray, List.set_cons_zero, List.set_cons_succ, i64_w, i32_w]; rfl
                                      refine pure_ (i := 7) (N := some 151) (v := ?_) (a' := ?_) #[true, true, true, true, true, true, true, true, false, false, false, false, false, false, false, false, false, false, false, false, false, false, false, false, false, false, false, false, false, false, false, false] rfl rfl (any_of HT_.out (by kernel_rfl)) (fun _ _ _ h => h) (Or.inl ⟨by rfl, ?_⟩) ?_ ?_; rotate_left
                                      ·intro w'; go_simp; with_reducible rfl
                                      rotate_left
                                      ·simp only [Act.put, List.setIfInBounds_toArray, List.set_cons_zero, List.set_cons_succ, i64_w, i32_w]; rfl
                                      refine pure_ (i := 8) (N := some 152) (v := ?_) (a' := ?_) #[true, true, true, true, true, true, true, true, true, false, false, false, false, false, false, false, false, false, false, false, false, false, false, false, false, false, false, false, false, false, false, false] rfl rfl (any_of HT_.out (by kernel_rfl)) (fun _ _ _ h => h) (Or.inl ⟨by rfl, ?_⟩) ?_ ?_; rotate_left
                                      ·intro w'; go_simp; with_reducible rfl
                                      rotate_left
                                      ·simp only [Act.put, List.setIfInBounds_toArray, List.set_cons_zero, List.set_cons_succ, i64_w, i32_w]; rfl
                                      refine pure_ (i := 9) (N := some 153) (v := ?_) (a' := ?_) #[true, true, true, true, true, true, true, true, true, true, false, false, false, false, false, false, false, false, false, false, false, false, false, false, false, false, false, false, false, false, false, false] rfl rfl (any_of HT_.out (by kernel_rfl)) (fun _ _ _ h => h) (Or.inl ⟨by rfl, ?_⟩) ?_ ?_; rotate_left
                                      ·intro w'; go_simp; with_reducible rfl
                                      rotate_left
                                      ·simp only [Act.put, List.setIfInBounds_toArray, List.set_cons_zero, List.set_cons_succ, i64_w, i32_w]; rfl
                                      refine pure_ (i := 10) (N := some 154) (v := ?_) (a' := ?_) #[true, true, true, true, true, true, true, true, true, true, true, false, false, false, false, false, false, false, false, false, false, false, false, false, false, false, false, false, false, false, false, false] rfl rfl (any_of HT_.out (by kernel_rfl)) (fun _ _ _ h => h) (Or.inl ⟨by rfl, ?_⟩) ?_ ?_; rotate_left
                                      ·intro w'; go_simp; with_reducible rfl
                                      rotate_left
                                      ·simp only [Act.put, List.setIfInBounds_toArray, List.set_cons_zero, List.set_cons_succ, i64_w, i32_w]; rfl
                                      refine pure_ (i := 11) (N := some 155) (v := ?_) (a' := ?_) #[true, true, true, true, true, true, true, true, true, true, true, true, false, false, false, false, false, false, false, false, false, false, false, false, false, false, false, false, false, false, false, false] rfl rfl (any_of HT_.out (by kernel_rfl)) (fun _ _ _ h => h) (Or.inl ⟨by rfl, ?_⟩) ?_ ?_; rotate_left
                                      ·intro w'; go_simp; with_reducible rfl
                                      rotate_left
                                      ·simp only [Act.put, List.setIfInBounds_toArray, List.set_cons_zero, List.set_cons_succ, i64_w, i32_w]; rfl
                                      refine pure_ (i := 13) (N := some 157) (v := ?_) (a' := ?_) #[true, true, true, true, true, true, true, true, true, true, true, true, false, true, false, false, false, false, false, false, false, false, false, false, false, false, false, false, false, false, false, false] rfl rfl (any_of HT_.out (by kernel_rfl)) (fun _ _ _ h => h) (Or.inl ⟨by rfl, ?_⟩) ?_ ?_; rotate_left
                                      ·intro w'; go_simp; with_reducible rfl
                                      rotate_left
                                      ·simp only [Act.put, List.setIfInBounds_toArray, List.set_cons_zero, List.set_cons_succ, i64_w, i32_w]; rfl
                                      refine pure_ (i := 14) (N := some 158) (v := ?_) (a' := ?_) #[true, true, true, true, true, true, true, true, true, true, true, true, false, true, true, false, false, false, false, false, false, false, false, false, false, false, false, false, false, false, false, false] rfl rfl (any_of HT_.out (by kernel_rfl)) (fun _ _ _ h => h) (Or.inl ⟨by rfl, ?_⟩) ?_ ?_; rotate_left
                                      ·intro w'; go_simp; with_reducible rfl
                                      rotate_left
                                      ·simp only [Act.put, List.setIfInBounds_toArray, List.set_cons_zero, List.set_cons_succ, i64_w, i32_w]; rfl
                                      refine pure_ (i := 15) (N := some 159) (v := ?_) (a' := ?_) #[true, true, true, true, true, true, true, true, true, true, true, true, false, true, true, true, false, false, false, false, false, false, false, false, false, false, false, false, false, false, false, false] rfl rfl (any_of HT_.out (by kernel_rfl)) (fun _ _ _ h => h) (Or.inl ⟨by rfl, ?_⟩) ?_ ?_; rotate_left
                                      ·intro w'; go_simp; with_reducible rfl
                                      rotate_left
                                      ·simp only [Act.put, List.setIfInBounds_toArray, List.set_cons_zero, List.set_cons_succ, i64_w, i32_w]; rfl
                                      refine pure_ (i := 16) (N := some 160) (v := ?_) (a' := ?_) #[true, true, true, true, true, true, true, true, true, true, true, true, false, true, true, true, true, false, false, false, false, false, false, false, false, false, false, false, false, false, false, false] rfl rfl (any_of HT_.out (by kernel_rfl)) (fun _ _ _ h => h) (Or.inl ⟨by rfl, ?_⟩) ?_ ?_; rotate_left
                                      ·intro w'; go_simp; with_reducible rfl
                                      rotate_left
                                      ·simp only [Act.put, List.setIfInBounds_toArray, List.set_cons_zero, List.set_cons_succ, i64_w, i32_w]; rfl
                                      refine take_ (i := 12) (N := some 156) (v := ?_) (a' := ?_) #[true, true, true, true, true, true, true, true, true, true, true, true, true, true, true, true, true, false, false, false, false, false, false, false, false, false, false, false, false, false, false, false] rfl rfl (take_ofW HT_.out HW_.out (by kernel_rfl)) (fun _ _ _ h => h) (Or.inl ⟨by rfl, ?_⟩) hHeld ?_ ?_; rotate_left
                                      ·rintro w' ⟨s0, s1, s2, s3, s4⟩
                                       go_simp; with_reducible rfl
                                      rotate_left
                                      ·simp only [Act.put, List.setIfInBounds_toArray, List.set_cons_zero, List.set_cons_succ, i64_w, i32_w]; rfl
                                      refine take_ (i := 17) (N := some 161) (v := ?_) (a' := ?_) #[true, true, true, true, true, true, true, true, true, true, true, true, true, true, true, true, true, true, false, false, false, false, false, false, false, false, false, false, false, false, false, false] rfl rfl (take_ofW HT_.out HW_.out (by kernel_rfl)) (fun _ _ _ h => h) (Or.inl ⟨by rfl, ?_⟩) hHeld ?_ ?_; rotate_left
                                      ·rintro w' ⟨s0, s1, s2, s3, s4⟩
                                       go_simp; with_reducible rfl
                                      rotate_left
                                      ·simp only [Act.put, List.setIfInBounds_toArray, List.set_cons_zero, List.set_cons_succ, i64_w, i32_w]; rfl
                                      refine pure_ (i := 18) (N := some 162) (v := ?_) (a' := ?_) #[true, true, true, true, true, true, true, true, true, true, true, true, true, true, true, true, true, true, true, false, false, false, false, false, false, false, false, false, false, false, false, false] rfl rfl (any_of HT_.out (by kernel_rfl)) (fun _ _ _ h => h) (Or.inl ⟨by rfl, ?_⟩) ?_ ?_; rotate_left
                                      ·intro w'; go_simp; with_reducible rfl
                                      rotate_left
                                      ·simp only [Act.put, List.setIfInBounds_toArray, List.set_cons_zero, List.set_cons_succ, i64_w, i32_w]; rfl
                                      refine take_ (i := 19) (N := some 163) (v := ?_) (a' := ?_) #[true, true, true, true, true, true, true, true, true, true, true, true, true, true, true, true, true, true, true, true, false, false, false, false, false, false, false, false, false, false, false, false] rfl rfl (take_ofW HT_.out HW_.out (by kernel_rfl)) (fun _ _ _ h => h) (Or.inl ⟨by rfl, ?_⟩) hHeld ?_ ?_; rotate_left
                                      ·rintro w' ⟨s0, s1, s2, s3, s4⟩
                                       go_simp; with_reducible rfl
                                      rotate_left
                                      ·simp only [Act.put, List.setIfInBounds_toArray, List.set_cons_zero, List.set_cons_succ, i64_w, i32_w]; rfl
                                      refine pure_ (i := 20) (N := some 164) (v := ?_) (a' := ?_) #[true, true, true, true, true, true, true, true, true, true, true, true, true, true, true, true, true, true, true, true, true, false, false, false, false, false, false, false, false, false, false, false] rfl rfl (any_of HT_.out (by kernel_rfl)) (fun _ _ _ h => h) (Or.inl ⟨by rfl, ?_⟩) ?_ ?_; rotate_left
                                      ·intro w'; go_simp; with_reducible rfl
                                      rotate_left
                                      ·simp only [Act.put, List.setIfInBounds_toArray, List.set_cons_zero, List.set_cons_succ, i64_w, i32_w]; rfl
                                      refine pure_ (i := 21) (N := some 165) (v := ?_) (a' := ?_) #[true, true, true, true, true, true, true, true, true, true, true, true, true, true, true, true, true, true, true, true, true, true, false, false, false, false, false, false, false, false, false, false] rfl rfl (any_of HT_.out (by kernel_rfl)) (fun _ _ _ h => h) (Or.inl ⟨by rfl, ?_⟩) ?_ ?_; rotate_left
                                      ·intro w'; go_simp; with_reducible rfl
                                      rotate_left
                                      ·simp only [Act.put, List.setIfInBounds_toArray, List.set_cons_zero, List.set_cons_succ, i64_w, i32_w]; rfl
                                      refine pure_ (i := 22) (N := some 166) (v := ?_) (a' := ?_) #[true, true, true, true, true, true, true, true, true, true, true, true, true, true, true, true, true, true, true, true, true, true, true, false, false, false, false, false, false, false, false, false] rfl rfl (any_of HT_.out (by kernel_rfl)) (fun _ _ _ h => h) (Or.inl ⟨by rfl, ?_⟩) ?_ ?_; rotate_left
                                      ·intro w'; go_simp; with_reducible rfl
                                      rotate_left
                                      ·simp only [Act.put, List.setIfInBounds_toArray, List.set_cons_zero, List.set_cons_succ, i64_w, i32_w]; rfl
                                      refine pure_ (i := 23) (N := some 167) (v := ?_) (a' := ?_) #[true, true, true, true, true, true, true, true, true, true, true, true, true, true, true, true, true, true, true, true, true, true, true, true, false, false, false, false, false, false, false, false] rfl rfl (any_of HT_.out (by kernel_rfl)) (fun _ _ _ h => h) (Or.inl ⟨by rfl, ?_⟩) ?_ ?_; rotate_left
                                      ·intro w'; go_simp; with_reducible rfl
                                      rotate_left
                                      ·simp only [Act.put, List.setIfInBounds_toArray, List.set_cons_zero, List.set_cons_succ, i64_w, i32_w]; rfl
                                      refine pure_ (i := 24) (N := some 168) (v := undef) (a' := ?_) #[true, true, true, true, true, true, true, true, true, true, true, true, true, true, true, true, true, true, true, true, true, true, true, true, true, false, false, false, false, false, false, false] rfl rfl (any_of HT_.out (by kernel_rfl)) (fun _ _ _ h => h) (Or.inr ⟨by rfl, rfl⟩) ?_ ?_; rotate_left
                                      ·simp only [Act.put, List.setIfInBounds_toArray, List.set_cons_zero, List.set_cons_succ, i64_w, i32_w]; rfl
                                      refine pure_ (i := 25) (N := some 169) (v := undef) (a' := ?_) #[true, true, true, true, true, true, true, true, true, true, true, true, true, true, true, true, true, true, true, true, true, true, true, true, true, true, false, false, false, false, false, false] rfl rfl (any_of HT_.out (by kernel_rfl)) (fun _ _ _ h => h) (Or.inr ⟨by rfl, rfl⟩) ?_ ?_; rotate_left
                                      ·simp only [Act.put, List.setIfInBounds_toArray, List.set_cons_zero, List.set_cons_succ, i64_w, i32_w]; rfl
                                      refine pure_ (i := 26) (N := some 170) (v := undef) (a' := ?_) #[true, true, true, true, true, true, true, true, true, true, true, true, true, true, true, true, true, true, true, true, true, true, true, true, true, true, true, false, false, false, false, false] rfl rfl (any_of HT_.out (by kernel_rfl)) (fun _ _ _ h => h) (Or.inr ⟨by rfl, rfl⟩) ?_ ?_; rotate_left
                                      ·simp only [Act.put, List.setIfInBounds_toArray, List.set_cons_zero, List.set_cons_succ, i64_w, i32_w]; rfl
                                      refine pure_ (i := 27) (N := some 171) (v := undef) (a' := ?_) #[true, true, true, true, true, true, true, true, true, true, true, true, true, true, true, true, true, true, true, true, true, true, true, true, true, true, true, true, false, false, false, false] rfl rfl (any_of HT_.out (by kernel_rfl)) (fun _ _ _ h => h) (Or.inr ⟨by rfl, rfl⟩) ?_ ?_; rotate_left
                                      ·simp only [Act.put, List.setIfInBounds_toArray, List.set_cons_zero, List.set_cons_succ, i64_w, i32_w]; rfl
                                      refine pure_ (i := 28) (N := some 172) (v := undef) (a' := ?_) #[true, true, true, true, true, true, true, true, true, true, true, true, true, true, true, true, true, true, true, true, true, true, true, true, true, true, true, true, true, false, false, false] rfl rfl (any_of HT_.out (by kernel_rfl)) (fun _ _ _ h => h) (Or.inr ⟨by rfl, rfl⟩) ?_ ?_; rotate_left
                                      ·simp only [Act.put, List.setIfInBounds_toArray, List.set_cons_zero, List.set_cons_succ, i64_w, i32_w]; rfl
                                      refine pure_ (i := 29) (N := some 173) (v := undef) (a' := ?_) #[true, true, true, true, true, true, true, true, true, true, true, true, true, true, true, true, true, true, true, true, true, true, true, true, true, true, true, true, true, true, false, false] rfl rfl (any_of HT_.out (by kernel_rfl)) (fun _ _ _ h => h) (Or.inr ⟨by rfl, rfl⟩) ?_ ?_; rotate_left
                                      ·simp only [Act.put, List.setIfInBounds_toArray, List.set_cons_zero, List.set_cons_succ, i64_w, i32_w]; rfl
                                      refine pure_ (i := 30) (N := some 174) (v := undef) (a' := ?_) #[true, true, true, true, true, true, true, true, true, true, true, true, true, true, true, true, true, true, true, true, true, true, true, true, true, true, true, true, true, true, true, false] rfl rfl (any_of HT_.out (by kernel_rfl)) (fun _ _ _ h => h) (Or.inr ⟨by rfl, rfl⟩) ?_ ?_; rotate_left
                                      ·simp only [Act.put, List.setIfInBounds_toArray, List.set_cons_zero, List.set_cons_succ, i64_w, i32_w]; rfl
                                      refine pure_ (i := 31) (N := some 175) (v := ?_) (a' := ?_) #[true, true, true, true, true, true, true, true, true, true, true, true, true, true, true, true, true, true, true, true, true, true, true, true, true, true, true, true, true, true, true, true] rfl rfl (any_of HT_.out (by kernel_rfl)) (fun _ _ _ h => h) (Or.inl ⟨by rfl, ?_⟩) ?_ ?_; rotate_left
                                      ·intro w'; go_simp; with_reducible rfl
                                      rotate_left
                                      ·simp only [Act.put, List.setIfInBounds_toArray, List.set_cons_zero, List.set_cons_succ, i64_w, i32_w]; rfl
                                      refine done_ (done_of HT_.out (by kernel_rfl)) ?_; (try go_wp2)
                                      go_meet
                                      case rel => exact ⟨_, (false), (by first | rfl | (simp; done) | (simp [*]; done)), H', ⟨by have := HJ6.out; have := HJ12.out; have := HK3.out; have := HK4.out; have := HK5.out; have := HK6.out; first | omega | exact Nat.le_refl _⟩, ⟨by (try simp only [hl11_4]); (with_reducible repeat (first | apply Kd.V_alloc | apply Kd.V_drewN | apply Kd.V_drew)); exact HO_1.out⟩, ⟨by (try simp only [hl11_4]); (with_reducible repeat (first | apply Kd.R_alloc | apply Kd.R_drewN | apply Kd.R_drew)); exact HO_9.out⟩, ⟨by (try simp only [hl11_4]); (with_reducible repeat (first | apply Kd.R_alloc | apply Kd.R_drewN | apply Kd.R_drew)); exact HO_11.out⟩, ⟨by repeat (first | (with_reducible first | exact HB.out | apply below_alloc | apply pw_below_drewN | apply below_drew1) | exact HB.out)⟩⟩
                                   ·rw [if_neg c69] at H; exact absurd H (by simp)
                                  ·rw [if_neg c68] at H; exact absurd H (by simp)
                                 ·rw [if_neg c67] at H; have c67b0 : decide (0 < (rd x11_4 (rd t298 x17_5))) = false := decide_eq_false c67; clear c67
                                  as_aux_lemma =>
                                   have H' := Aside0.mk H; clear H; (try go_wp2); have n0_ := Aside0.mk (Kd.V_drew HO_1.out); have n1_ := Aside0.mk (Kd.R_drew HO_9.out); have n2_ := Aside0.mk (Kd.R_drew HO_11.out); have n3_ := Aside0.mk (below_drew1 HB.out); clear HO_1; clear HO_9; clear HO_11; clear HB; have HO_1 := n0_; have HO_9 := n1_; have HO_11 := n2_; have HB := n3_; clear n0_ n1_ n2_ n3_; have p316 : 0 ≤ (x17_5 : Int) := of_decide_eq_true (by first | (with_reducible assumption) | assumption); have q316 : x17_5 < (t298.length : Int) := of_decide_eq_true (by first | (with_reducible assumption) | assumption); obtain ⟨ad316, e316, hx316_0⟩ := Kd.at_int (Kd.R_reads' HO_9.out).2.2 x17_5 p316 q316; obtain rfl : ad315 = ad316 := (by injection e316); replace p316 := eq_true p316; replace q316 := eq_true q316; have p317 : 0 ≤ ((rd t298 x17_5) : Int) := of_decide_eq_true (by first | (with_reducible assumption) | assumption); have q317 : (rd t298 x17_5) < (x11_4.length : Int) := of_decide_eq_true (by first | (with_reducible assumption) | assumption); obtain ⟨ad317, e317, hx317_0⟩ := Kd.at_int (Kd.R_reads' HO_11.out).2.2 (rd t298 x17_5) p317 q317; obtain rfl : (⟨go35, 0, none⟩ : Addr) = ad317 := (by injection e317)
                                   (first | simp only [add_plain] at hx317_0 | simp only [add_at] at hx317_0 | simp only [Addr.add, Nat.zero_add] at hx317_0 | skip)
                                   replace p317 := eq_true p317; replace q317 := eq_true q317; refine start_ (n := 32) (S := fun w' => w'.cell? (ad315.add (x17_5).toNat) = some (.int .i64 (rd t298 x17_5)) ∧ w'.cell? ⟨go35, ((rd t298 x17_5)).toNat, none⟩ = some (.int .i64 (rd x11_4 (rd t298 x17_5)))) (ds := []) #[false, false, false, false, false, false, false, false, false, false, false, false, false, false, false, false, false, false, false, false, false, false, false, false, false, false, false, false, false, false, false, false] (by kernel_rfl) rfl rfl ⟨hx316_0, hx317_0⟩ (fun hHeld => ?_); refine with_tabW croftlaw42_SpanWays.tab37 croftlaw42_SpanWays.bits37 (fun HT_ HW_ => ?_)
                                   generalize wr.drew = w74 at HO_1 HO_9 HO_11 HB hx316_0 hx317_0 hHeld ⊢
                                   refine pure_ (i := 0) (N := some 144) (v := ?_) (a' := ?_) #[true, false, false, false, false, false, false, false, false, false, false, false, false, false, false, false, false, false, false, false, false, false, false, false, false, false, false, false, false, false, false, false] rfl rfl (any_of HT_.out (by kernel_rfl)) (fun _ _ _ h => h) (Or.inl ⟨by rfl, ?_⟩) ?_ ?_; rotate_left
                                   ·intro w'; go_simp; with_reducible rfl
                                   rotate_left
                                   ·simp only [Act.put, List.setIfInBounds_toArray, List.set_cons_zero, List.set_cons_succ, i64_w, i32_w]; rfl
                                   refine pure_ (i := 1) (N := some 145) (v := ?_) (a' := ?_) #[true, true, false, false, false, false, false, false, false, false, false, false, false, false, false, false, false, false, false, false, false, false, false, false, false, false, false, false, false, false, false, false] rfl rfl (any_of HT_.out (by kernel_rfl)) (fun _ _ _ h => h) (Or.inl ⟨by rfl, ?_⟩) ?_ ?_; rotate_left
                                   ·intro w'; go_simp; with_reducible rfl
                                   rotate_left
                                   ·simp only [Act.put, List.setIfInBounds_toArray, List.set_cons_zero, List.set_cons_succ, i64_w, i32_w]; rfl
                                   refine pure_ (i := 2) (N := some 146) (v := ?_) (a' := ?_) #[true, true, true, false, false, false, false, false, false, false, false, false, false, false, false, false, false, false, false, false, false, false, false, false, false, false, false, false, false, false, false, false] rfl rfl (any_of HT_.out (by kernel_rfl)) (fun _ _ _ h => h) (Or.inl ⟨by rfl, ?_⟩) ?_ ?_; rotate_left
                                   ·intro w'; go_simp; with_reducible rfl
                                   rotate_left
                                   ·simp only [Act.put, List.setIfInBounds_toArray, List.set_cons_zero, List.set_cons_succ, i64_w, i32_w]; rfl
                                   refine pure_ (i := 3) (N := some 147) (v := ?_) (a' := ?_) #[true, true, true, true, false, false, false, false, false, false, false, false, false, false, false, false, false, false, false, false, false, false, false, false, false, false, false, false, false, false, false, false] rfl rfl (any_of HT_.out (by kernel_rfl)) (fun _ _ _ h => h) (Or.inl ⟨by rfl, ?_⟩) ?_ ?_; rotate_left
                                   ·intro w'; go_simp; with_reducible rfl
                                   rotate_left
                                   ·simp only [Act.put, List.setIfInBounds_toArray, List.set_cons_zero, List.set_cons_succ, i64_w, i32_w]; rfl
                                   refine take_ (i := 4) (N := some 148) (v := ?_) (a' := ?_) #[true, true, true, true, true, false, false, false, false, false, false, false, false, false, false, false, false, false, false, false, false, false, false, false, false, false, false, false, false, false, false, false] rfl rfl (take_ofW HT_.out HW_.out (by kernel_rfl)) (fun _ _ _ h => h) (Or.inl ⟨by rfl, ?_⟩) hHeld ?_ ?_; rotate_left
                                   ·rintro w' ⟨s0, s1⟩
                                    go_simp; with_reducible rfl
                                   rotate_left
                                   ·simp only [Act.put, List.setIfInBounds_toArray, List.set_cons_zero, List.set_cons_succ, i64_w, i32_w]; rfl
                                   refine pure_ (i := 5) (N := some 149) (v := ?_) (a' := ?_) #[true, true, true, true, true, true, false, false, false, false, false, false, false, false, false, false, false, false, false, false, false, false, false, false, false, false, false, false, false, false, false, false] rfl rfl (any_of HT_.out (by kernel_rfl)) (fun _ _ _ h => h) (Or.inl ⟨by rfl, ?_⟩) ?_ ?_; rotate_left
                                   ·intro w'; go_simp; with_reducible rfl
                                   rotate_left
                                   ·simp only [Act.put, List.setIfInBounds_toArray, List.set_cons_zero, List.set_cons_succ, i64_w, i32_w]; rfl
                                   refine take_ (i := 6) (N := some 150) (v := ?_) (a' := ?_) #[true, true, true, true, true, true, true, false, false, false, false, false, false, false, false, false, false, false, false, false, false, false, false, false, false, false, false, false, false, false, false, false] rfl rfl (take_ofW HT_.out HW_.out (by kernel_rfl)) (fun _ _ _ h => h) (Or.inl ⟨by rfl, ?_⟩) hHeld ?_ ?_; rotate_left
                                   ·rintro w' ⟨s0, s1⟩
                                    go_simp; with_reducible rfl
                                   rotate_left
                                   ·simp only [Act.put, List.setIfInBounds_toArray, List.set_cons_zero, List.set_cons_succ, i64_w, i32_w]; rfl
                                   refine pure_ (i := 7) (N := some 151) (v := ?_) (a' := ?_) #[true, true, true, true, true, true, true, true, false, false, false, false, false, false, false, false, false, false, false, false, false, false, false, false, false, false, false, false, false, false, false, false] rfl rfl (any_of HT_.out (by kernel_rfl)) (fun _ _ _ h => h) (Or.inl ⟨by rfl, ?_⟩) ?_ ?_; rotate_left
                                   ·intro w'; go_simp; with_reducible rfl
                                   rotate_left
                                   ·simp only [Act.put, List.setIfInBounds_toArray, List.set_cons_zero, List.set_cons_succ, i64_w, i32_w]; rfl
                                   refine pure_ (i := 8) (N := some 152) (v := ?_) (a' := ?_) #[true, true, true, true, true, true, true, true, true, false, false, false, false, false, false, false, false, false, false, false, false, false, false, false, false, false, false, false, false, false, false, false] rfl rfl (any_of HT_.out (by kernel_rfl)) (fun _ _ _ h => h) (Or.inl ⟨by rfl, ?_⟩) ?_ ?_; rotate_left
                                   ·intro w'; go_simp; with_reducible rfl
                                   rotate_left
                                   ·simp only [Act.put, List.setIfInBounds_toArray, List.set_cons_zero, List.set_cons_succ, i64_w, i32_w]; rfl
                                   refine pure_ (i := 9) (N := some 153) (v := undef) (a' := ?_) #[true, true, true, true, true, true, true, true, true, true, false, false, false, false, false, false, false, false, false, false, false, false, false, false, false, false, false, false, false, false, false, false] rfl rfl (any_of HT_.out (by kernel_rfl)) (fun _ _ _ h => h) (Or.inr ⟨by rfl, rfl⟩) ?_ ?_; rotate_left
                                   ·simp only [Act.put, List.setIfInBounds_toArray, List.set_cons_zero, List.set_cons_succ, i64_w, i32_w]; rfl
                                   refine pure_ (i := 10) (N := some 154) (v := undef) (a' := ?_) #[true, true, true, true, true, true, true, true, true, true, true, false, false, false, false, false, false, false, false, false, false, false, false, false, false, false, false, false, false, false, false, false] rfl rfl (any_of HT_.out (by kernel_rfl)) (fun _ _ _ h => h) (Or.inr ⟨by rfl, rfl⟩) ?_ ?_; rotate_left
                                   ·simp only [Act.put, List.setIfInBounds_toArray, List.set_cons_zero, List.set_cons_succ, i64_w, i32_w]; rfl
                                   refine pure_ (i := 11) (N := some 155) (v := undef) (a' := ?_) #[true, true, true, true, true, true, true, true, true, true, true, true, false, false, false, false, false, false, false, false, false, false, false, false, false, false, false, false, false, false, false, false] rfl rfl (any_of HT_.out (by kernel_rfl)) (fun _ _ _ h => h) (Or.inr ⟨by rfl, rfl⟩) ?_ ?_; rotate_left
                                   ·simp only [Act.put, List.setIfInBounds_toArray, List.set_cons_zero, List.set_cons_succ, i64_w, i32_w]; rfl
                                   refine pure_ (i := 12) (N := some 156) (v := undef) (a' := ?_) #[true, true, true, true, true, true, true, true, true, true, true, true, true, false, false, false, false, false, false, false, false, false, false, false, false, false, false, false, false, false, false, false] rfl rfl (any_of HT_.out (by kernel_rfl)) (fun _ _ _ h => h) (Or.inr ⟨by rfl, rfl⟩) ?_ ?_; rotate_left
                                   ·simp only [Act.put, List.setIfInBounds_toArray, List.set_cons_zero, List.set_cons_succ, i64_w, i32_w]; rfl
                                   refine pure_ (i := 13) (N := some 157) (v := undef) (a' := ?_) #[true, true, true, true, true, true, true, true, true, true, true, true, true, true, false, false, false, false, false, false, false, false, false, false, false, false, false, false, false, false, false, false] rfl rfl (any_of HT_.out (by kernel_rfl)) (fun _ _ _ h => h) (Or.inr ⟨by rfl, rfl⟩) ?_ ?_; rotate_left
                                   ·simp only [Act.put, List.setIfInBounds_toArray, List.set_cons_zero, List.set_cons_succ, i64_w, i32_w]; rfl
                                   refine pure_ (i := 14) (N := some 158) (v := undef) (a' := ?_) #[true, true, true, true, true, true, true, true, true, true, true, true, true, true, true, false, false, false, false, false, false, false, false, false, false, false, false, false, false, false, false, false] rfl rfl (any_of HT_.out (by kernel_rfl)) (fun _ _ _ h => h) (Or.inr ⟨by rfl, rfl⟩) ?_ ?_; rotate_left
                                   ·simp only [Act.put, List.setIfInBounds_toArray, List.set_cons_zero, List.set_cons_succ, i64_w, i32_w]; rfl
                                   refine pure_ (i := 15) (N := some 159) (v := undef) (a' := ?_) #[true, true, true, true, true, true, true, true, true, true, true, true, true, true, true, true, false, false, false, false, false, false, false, false, false, false, false, false, false, false, false, false] rfl rfl (any_of HT_.out (by kernel_rfl)) (fun _ _ _ h => h) (Or.inr ⟨by rfl, rfl⟩) ?_ ?_; rotate_left
                                   ·simp only [Act.put, List.setIfInBounds_toArray, List.set_cons_zero, List.set_cons_succ, i64_w, i32_w]; rfl
                                   refine pure_ (i := 16) (N := some 160) (v := undef) (a' := ?_) #[true, true, true, true, true, true, true, true, true, true, true, true, true, true, true, true, true, false, false, false, false, false, false, false, false, false, false, false, false, false, false, false] rfl rfl (any_of HT_.out (by kernel_rfl)) (fun _ _ _ h => h) (Or.inr ⟨by rfl, rfl⟩) ?_ ?_; rotate_left
                                   ·simp only [Act.put, List.setIfInBounds_toArray, List.set_cons_zero, List.set_cons_succ, i64_w, i32_w]; rfl
                                   refine pure_ (i := 17) (N := some 161) (v := undef) (a' := ?_) #[true, true, true, true, true, true, true, true, true, true, true, true, true, true, true, true, true, true, false, false, false, false, false, false, false, false, false, false, false, false, false, false] rfl rfl (any_of HT_.out (by kernel_rfl)) (fun _ _ _ h => h) (Or.inr ⟨by rfl, rfl⟩) ?_ ?_; rotate_left
                                   ·simp only [Act.put, List.setIfInBounds_toArray, List.set_cons_zero, List.set_cons_succ, i64_w, i32_w]; rfl
                                   refine pure_ (i := 18) (N := some 162) (v := undef) (a' := ?_) #[true, true, true, true, true, true, true, true, true, true, true, true, true, true, true, true, true, true, true, false, false, false, false, false, false, false, false, false, false, false, false, false] rfl rfl (any_of HT_.out (by kernel_rfl)) (fun _ _ _ h => h) (Or.inr ⟨by rfl, rfl⟩) ?_ ?_; rotate_left
                                   ·simp only [Act.put, List.setIfInBounds_toArray, List.set_cons_zero, List.set_cons_succ, i64_w, i32_w]; rfl
                                   refine pure_ (i := 19) (N := some 163) (v := undef) (a' := ?_) #[true, true, true, true, true, true, true, true, true, true, true, true, true, true, true, true, true, true, true, true, false, false, false, false, false, false, false, false, false, false, false, false] rfl rfl (any_of HT_.out (by kernel_rfl)) (fun _ _ _ h => h) (Or.inr ⟨by rfl, rfl⟩) ?_ ?_; rotate_left
                                   ·simp only [Act.put, List.setIfInBounds_toArray, List.set_cons_zero, List.set_cons_succ, i64_w, i32_w]; rfl
                                   refine pure_ (i := 20) (N := some 164) (v := undef) (a' := ?_) #[true, true, true, true, true, true, true, true, true, true, true, true, true, true, true, true, true, true, true, true, true, false, false, false, false, false, false, false, false, false, false, false] rfl rfl (any_of HT_.out (by kernel_rfl)) (fun _ _ _ h => h) (Or.inr ⟨by rfl, rfl⟩) ?_ ?_; rotate_left
                                   ·simp only [Act.put, List.setIfInBounds_toArray, List.set_cons_zero, List.set_cons_succ, i64_w, i32_w]; rfl
                                   refine pure_ (i := 21) (N := some 165) (v := undef) (a' := ?_) #[true, true, true, true, true, true, true, true, true, true, true, true, true, true, true, true, true, true, true, true, true, true, false, false, false, false, false, false, false, false, false, false] rfl rfl (any_of HT_.out (by kernel_rfl)) (fun _ _ _ h => h) (Or.inr ⟨by rfl, rfl⟩) ?_ ?_; rotate_left
                                   ·simp only [Act.put, List.setIfInBounds_toArray, List.set_cons_zero, List.set_cons_succ, i64_w, i32_w]; rfl
                                   refine pure_ (i := 22) (N := some 166) (v := ?_) (a' := ?_) #[true, true, true, true, true, true, true, true, true, true, true, true, true, true, true, true, true, true, true, true, true, true, true, false, false, false, false, false, false, false, false, false] rfl rfl (any_of HT_.out (by kernel_rfl)) (fun _ _ _ h => h) (Or.inl ⟨by rfl, ?_⟩) ?_ ?_; rotate_left
                                   ·intro w'; go_simp; with_reducible rfl
                                   rotate_left
                                   ·simp only [Act.put, List.setIfInBounds_toArray, List.set_cons_zero, List.set_cons_succ, i64_w, i32_w]; rfl
                                   refine pure_ (i := 23) (N := some 167) (v := ?_) (a' := ?_) #[true, true, true, true, true, true, true, true, true, true, true, true, true, true, true, true, true, true, true, true, true, true, true, true, false, false, false, false, false, false, false, false] rfl rfl (any_of HT_.out (by kernel_rfl)) (fun _ _ _ h => h) (Or.inl ⟨by rfl, ?_⟩) ?_ ?_; rotate_left
                                   ·intro w'; go_simp; with_reducible rfl
                                   rotate_left
                                   ·simp only [Act.put, List.setIfInBounds_toArray, List.set_cons_zero, List.set_cons_succ, i64_w, i32_w]; rfl
                                   refine pure_ (i := 24) (N := some 168) (v := undef) (a' := ?_) #[true, true, true, true, true, true, true, true, true, true, true, true, true, true, true, true, true, true, true, true, true, true, true, true, true, false, false, false, false, false, false, false] rfl rfl (any_of HT_.out (by kernel_rfl)) (fun _ _ _ h => h) (Or.inr ⟨by rfl, rfl⟩) ?_ ?_; rotate_left
                                   ·simp only [Act.put, List.setIfInBounds_toArray, List.set_cons_zero, List.set_cons_succ, i64_w, i32_w]; rfl
                                   refine pure_ (i := 25) (N := some 169) (v := undef) (a' := ?_) #[true, true, true, true, true, true, true, true, true, true, true, true, true, true, true, true, true, true, true, true, true, true, true, true, true, true, false, false, false, false, false, false] rfl rfl (any_of HT_.out (by kernel_rfl)) (fun _ _ _ h => h) (Or.inr ⟨by rfl, rfl⟩) ?_ ?_; rotate_left
                                   ·simp only [Act.put, List.setIfInBounds_toArray, List.set_cons_zero, List.set_cons_succ, i64_w, i32_w]; rfl
                                   refine pure_ (i := 26) (N := some 170) (v := undef) (a' := ?_) #[true, true, true, true, true, true, true, true, true, true, true, true, true, true, true, true, true, true, true, true, true, true, true, true, true, true, true, false, false, false, false, false] rfl rfl (any_of HT_.out (by kernel_rfl)) (fun _ _ _ h => h) (Or.inr ⟨by rfl, rfl⟩) ?_ ?_; rotate_left
                                   ·simp only [Act.put, List.setIfInBounds_toArray, List.set_cons_zero, List.set_cons_succ, i64_w, i32_w]; rfl
                                   refine pure_ (i := 27) (N := some 171) (v := undef) (a' := ?_) #[true, true, true, true, true, true, true, true, true, true, true, true, true, true, true, true, true, true, true, true, true, true, true, true, true, true, true, true, false, false, false, false] rfl rfl (any_of HT_.out (by kernel_rfl)) (fun _ _ _ h => h) (Or.inr ⟨by rfl, rfl⟩) ?_ ?_; rotate_left
                                   ·simp only [Act.put, List.setIfInBounds_toArray, List.set_cons_zero, List.set_cons_succ, i64_w, i32_w]; rfl
                                   refine pure_ (i := 28) (N := some 172) (v := undef) (a' := ?_) #[true, true, true, true, true, true, true, true, true, true, true, true, true, true, true, true, true, true, true, true, true, true, true, true, true, true, true, true, true, false, false, false] rfl rfl (any_of HT_.out (by kernel_rfl)) (fun _ _ _ h => h) (Or.inr ⟨by rfl, rfl⟩) ?_ ?_; rotate_left
                                   ·simp only [Act.put, List.setIfInBounds_toArray, List.set_cons_zero, List.set_cons_succ, i64_w, i32_w]; rfl
                                   refine pure_ (i := 29) (N := some 173) (v := undef) (a' := ?_) #[true, true, true, true, true, true, true, true, true, true, true, true, true, true, true, true, true, true, true, true, true, true, true, true, true, true, true, true, true, true, false, false] rfl rfl (any_of HT_.out (by kernel_rfl)) (fun _ _ _ h => h) (Or.inr ⟨by rfl, rfl⟩) ?_ ?_; rotate_left
                                   ·simp only [Act.put, List.setIfInBounds_toArray, List.set_cons_zero, List.set_cons_succ, i64_w, i32_w]; rfl
                                   refine pure_ (i := 30) (N := some 174) (v := undef) (a' := ?_) #[true, true, true, true, true, true, true, true, true, true, true, true, true, true, true, true, true, true, true, true, true, true, true, true, true, true, true, true, true, true, true, false] rfl rfl (any_of HT_.out (by kernel_rfl)) (fun _ _ _ h => h) (Or.inr ⟨by rfl, rfl⟩) ?_ ?_; rotate_left
                                   ·simp only [Act.put, List.setIfInBounds_toArray, List.set_cons_zero, List.set_cons_succ, i64_w, i32_w]; rfl
                                   refine pure_ (i := 31) (N := some 175) (v := ?_) (a' := ?_) #[true, true, true, true, true, true, true, true, true, true, true, true, true, true, true, true, true, true, true, true, true, true, true, true, true, true, true, true, true, true, true, true] rfl rfl (any_of HT_.out (by kernel_rfl)) (fun _ _ _ h => h) (Or.inl ⟨by rfl, ?_⟩) ?_ ?_; rotate_left
                                   ·intro w'; go_simp; with_reducible rfl
                                   rotate_left
                                   ·simp only [Act.put, List.setIfInBounds_toArray, List.set_cons_zero, List.set_cons_succ, i64_w, i32_w]; rfl
                                   refine done_ (done_of HT_.out (by kernel_rfl)) ?_; (try go_wp2)
                                   go_meet
                                   case rel => exact ⟨_, (false), (by first | rfl | (simp; done) | (simp [*]; done)), H', ⟨by have := HJ6.out; have := HJ12.out; have := HK3.out; have := HK4.out; have := HK5.out; have := HK6.out; first | omega | exact Nat.le_refl _⟩, ⟨by (try simp only [hl11_4]); (with_reducible repeat (first | apply Kd.V_alloc | apply Kd.V_drewN | apply Kd.V_drew)); exact HO_1.out⟩, ⟨by (try simp only [hl11_4]); (with_reducible repeat (first | apply Kd.R_alloc | apply Kd.R_drewN | apply Kd.R_drew)); exact HO_9.out⟩, ⟨by (try simp only [hl11_4]); (with_reducible repeat (first | apply Kd.R_alloc | apply Kd.R_drewN | apply Kd.R_drew)); exact HO_11.out⟩, ⟨by repeat (first | (with_reducible first | exact HB.out | apply below_alloc | apply pw_below_drewN | apply below_drew1) | exact HB.out)⟩⟩
                                ·rw [if_neg c66] at H; exact absurd H (by simp)
                               ·rw [if_neg c65] at H; exact absurd H (by simp)
                              ·rw [if_neg c64] at H; exact absurd H (by simp)
                             ·rw [if_neg c63] at H; exact absurd H (by simp)
                            case rest =>
                             clear HC62; (try clear c1); (try clear p2); (try clear p3); (try clear q3); (try clear hx3); (try clear c6); (try clear p6); (try clear c7); (try clear c13); (try clear p31); (try clear q31); (try clear hx31); (try clear p32); (try clear q32); (try clear hx32); (try clear c63); (try clear c64); (try clear p64); (try clear c65); (try clear c66); (try clear c67); (try clear c67b0); (try clear c68); (try clear c69); (try clear c70); (try clear c70b0); (try clear c70b1); (try clear hx316_0); (try clear hx317_0); (try clear hx318_0); (try clear hx319_0); (try clear hx320_0); (try clear p316); (try clear p317); (try clear p318); (try clear p319); (try clear p320); (try clear q316); (try clear q317); (try clear q318); (try clear q319); (try clear q320); obtain ⟨kq, x175_61, rfl, HA, HJ61, HO_1, HO_9, HO_11, HB⟩ := hcut
                             cases kq with
                             | zero => exact absurd HA.out (by simp [croftlaw42_SpanWays.j8])
                             | succ kj61 =>
                              have H := HA.out; clear HA; simp only [croftlaw42_SpanWays.j8] at H
                              by_cases c75 : x175_61 = true
                              ·subst c75
                               have H1 : (croftlaw42_SpanWays.l5 kj61 (ji22) x1_6 a2 a3 t298 t299 x11_4 x18_6 x17_5 (wrap64 (x18_6 - 1))) = some r := by rw [if_pos rfl] at H; exact H
                               clear H; have H := H1; clear H1
                               as_aux_lemma =>
                                have H' := Aside0.mk H; clear H; go_wp2
                                go_roundg kj61
                                case measure => have := HJ6.out; have := HJ12.out; have := HK3.out; have := HK4.out; have := HK5.out; have := HK6.out; have := HJ61.out; omega
                                case rel => exact ⟨(x18_6), (wrap64 (x18_6 - 1)), (by first | rfl | (simp; done) | (simp [*]; done)), (by first | rfl | (simp; done) | (simp [*]; done)), H', ⟨by have := HJ6.out; have := HJ12.out; have := HK3.out; have := HK4.out; have := HK5.out; have := HK6.out; have := HJ61.out; omega⟩, ⟨by (try simp only [hl11_4]); (with_reducible repeat (first | apply Kd.V_alloc | apply Kd.V_drewN | apply Kd.V_drew)); exact HO_1.out⟩, ⟨by (try simp only [hl11_4]); (with_reducible repeat (first | apply Kd.R_alloc | apply Kd.R_drewN | apply Kd.R_drew)); exact HO_9.out⟩, ⟨by (try simp only [hl11_4]); (with_reducible repeat (first | apply Kd.R_alloc | apply Kd.R_drewN | apply Kd.R_drew)); exact HO_11.out⟩, ⟨by repeat (first | (with_reducible first | exact HB.out | apply below_alloc | apply pw_below_drewN | apply below_drew1) | exact HB.out)⟩⟩
                              ·replace c75 := Bool.eq_false_iff.mpr c75; subst c75
                               have H1 : (croftlaw42_SpanWays.l5 kj61 (ji22) x1_6 a2 a3 t298 t299 x11_4 x16_6 x17_5 (wrap64 (x18_6 - 1))) = some r := by rw [if_neg (show ¬ (false = true) by decide)] at H; exact H
                               clear H; have H := H1; clear H1
                               as_aux_lemma =>
                                have H' := Aside0.mk H; clear H; go_wp2
                                go_roundg kj61
                                case measure => have := HJ6.out; have := HJ12.out; have := HK3.out; have := HK4.out; have := HK5.out; have := HK6.out; have := HJ61.out; omega
                                case rel => exact ⟨(x16_6), (wrap64 (x18_6 - 1)), (by first | rfl | (simp; done) | (simp [*]; done)), (by first | rfl | (simp; done) | (simp [*]; done)), H', ⟨by have := HJ6.out; have := HJ12.out; have := HK3.out; have := HK4.out; have := HK5.out; have := HK6.out; have := HJ61.out; omega⟩, ⟨by (try simp only [hl11_4]); (with_reducible repeat (first | apply Kd.V_alloc | apply Kd.V_drewN | apply Kd.V_drew)); exact HO_1.out⟩, ⟨by (try simp only [hl11_4]); (with_reducible repeat (first | apply Kd.R_alloc | apply Kd.R_drewN | apply Kd.R_drew)); exact HO_9.out⟩, ⟨by (try simp only [hl11_4]); (with_reducible repeat (first | apply Kd.R_alloc | apply Kd.R_drewN | apply Kd.R_drew)); exact HO_11.out⟩, ⟨by repeat (first | (with_reducible first | exact HB.out | apply below_alloc | apply pw_below_drewN | apply below_drew1) | exact HB.out)⟩⟩
                           ·rw [if_neg c61] at H; have c61b0 : decide (0 ≤ x18_6) = false := decide_eq_false c61; clear c61
                            as_aux_lemma =>
                             have H' := Aside0.mk H; clear H; go_wp2
                             go_roundg k6
                             case measure => have := HJ6.out; have := HJ12.out; have := HK3.out; have := HK4.out; have := HK5.out; have := HK6.out; omega
                             case rel => exact ⟨(x16_6), (wrap64 (x17_5 + 1)), (by first | rfl | (simp; done) | (simp [*]; done)), (by first | rfl | (simp; done) | (simp [*]; done)), H', ⟨by have := HJ6.out; have := HJ12.out; have := HK3.out; have := HK4.out; have := HK5.out; have := HK6.out; omega⟩, ⟨by (try simp only [hl11_4]); (with_reducible repeat (first | apply Kd.V_alloc | apply Kd.V_drewN | apply Kd.V_drew)); exact HO_1.out⟩, ⟨by (try simp only [hl11_4]); (with_reducible repeat (first | apply Kd.R_alloc | apply Kd.R_drewN | apply Kd.R_drew)); exact HO_9.out⟩, ⟨by (try simp only [hl11_4]); (with_reducible repeat (first | apply Kd.R_alloc | apply Kd.R_drewN | apply Kd.R_drew)); exact HO_11.out⟩, ⟨by repeat (first | (with_reducible first | exact HB.out | apply below_alloc | apply pw_below_drewN | apply below_drew1) | exact HB.out)⟩⟩
                        ·rw [if_neg c59] at H; have c59b0 : ((rd t298 x17_5) == x16_5) = false := beq_eq_false_iff_ne.mpr c59; have c59b1 : ((rd t298 x17_5) != x16_5) = true := bne_iff_ne.mpr c59
                         as_aux_lemma =>
                          obtain rfl := Option.some.inj H; obtain ⟨Ao76, co76, eo76⟩ := Kd.R_slice HO_9.out; subst eo76; have p315 : 0 ≤ (x17_5 : Int) := of_decide_eq_true (by first | (with_reducible assumption) | assumption); have q315 : x17_5 < (t298.length : Int) := of_decide_eq_true (by first | (with_reducible assumption) | assumption); obtain ⟨ad315, e315, hx315_0⟩ := Kd.at_int (Kd.R_reads' HO_9.out).2.2 x17_5 p315 q315; cases e315; replace p315 := eq_true p315; replace q315 := eq_true q315; go_wp2; go_ret; exact ⟨by first | rfl | (simp [errW_none, errW_some] <;> rfl) | (simp only [← hji22]; first | rfl | (simp [errW_none, errW_some] <;> rfl)) | (simp [*, errW_none, errW_some] <;> rfl), by repeat (first | (with_reducible first | exact HB.out | apply below_alloc | apply pw_below_drewN | apply below_drew1) | exact HB.out)⟩
                       ·rw [if_neg c58] at H; exact absurd H (by simp)
                      ·rw [if_neg c57] at H; have c57b0 : decide (x17_5 < (t298.length : Int)) = false := decide_eq_false c57
                       (try simp only [hl11_4] at c57b0)
                       clear c57
                       by_cases c77 : t299 = true
                       ·subst c77
                        have H1 : (if 0 ≤ a2 then (if a2 < (x11_4.length : Int) then (if (t298.length : Int) = (wrap64 ((rd x11_4 a2) + 1)) then (if 0 ≤ (wrap64 ((t298.length : Int) - 1)) then (if (wrap64 ((t298.length : Int) - 1)) < (t298.length : Int) then (some ((rd t298 (wrap64 ((t298.length : Int) - 1))) == a3)) else (none)) else (none)) else (some false)) else (none)) else (none)) = some r := by rw [if_pos rfl] at H; exact H
                        clear H; have H := H1; clear H1
                        by_cases c78 : 0 ≤ a2
                        ·rw [if_pos c78] at H; have c78b0 : decide (0 ≤ a2) = true := decide_eq_true c78; clear c78
                         by_cases c79 : a2 < (x11_4.length : Int)
                         ·rw [if_pos c79] at H; have c79b0 : decide (a2 < (x11_4.length : Int)) = true := decide_eq_true c79
                          (try simp only [hl11_4] at c79b0)
                          clear c79
                          by_cases c80 : (t298.length : Int) = (wrap64 ((rd x11_4 a2) + 1))
                          ·rw [if_pos c80] at H; have c80b0 : ((t298.length : Int) == (wrap64 ((rd x11_4 a2) + 1))) = true := beq_iff_eq.mpr c80
                           (try simp only [hl11_4] at c80b0)
                           have c80b1 : ((t298.length : Int) != (wrap64 ((rd x11_4 a2) + 1))) = false := bne_eq_false_iff_eq.mpr c80
                           (try simp only [hl11_4] at c80b1)
                           clear c80; obtain ⟨ji81, hji81⟩ : ∃ j_ : Int, (wrap64 ((t298.length : Int) - 1)) = j_ := ⟨_, rfl⟩
                           replace H : (if 0 ≤ (ji81) then (if (ji81) < (t298.length : Int) then (some ((rd t298 (ji81)) == a3)) else (none)) else (none)) = some r := by first | (rw [hji81] at H; exact H) | (simp only [hji81] at H ⊢; exact H)
                           have hji81w : (IntKind.i64.wrap ((t298.length : Int) - 1)) = ji81 := (i64_w _).trans hji81
                           by_cases c82 : 0 ≤ (ji81)
                           ·rw [if_pos c82] at H; have c82b0 : decide (0 ≤ (ji81)) = true := decide_eq_true c82; clear c82
                            by_cases c83 : (ji81) < (t298.length : Int)
                            ·rw [if_pos c83] at H; have c83b0 : decide ((ji81) < (t298.length : Int)) = true := decide_eq_true c83
                             (try simp only [hl11_4] at c83b0)
                             clear c83
                             as_aux_lemma =>
                              obtain rfl := Option.some.inj H; obtain ⟨Ao84, co84, eo84⟩ := Kd.R_slice HO_9.out; subst eo84; have p313 : 0 ≤ (a2 : Int) := of_decide_eq_true (by first | (with_reducible assumption) | assumption); have q313 : a2 < (x11_4.length : Int) := of_decide_eq_true (by first | (with_reducible assumption) | assumption); obtain ⟨ad313, e313, hx313_0⟩ := Kd.at_int (Kd.R_reads' HO_11.out).2.2 a2 p313 q313; obtain rfl : (⟨go35, 0, none⟩ : Addr) = ad313 := (by injection e313)
                              (first | simp only [add_plain] at hx313_0 | simp only [add_at] at hx313_0 | simp only [Addr.add, Nat.zero_add] at hx313_0 | skip)
                              replace p313 := eq_true p313; replace q313 := eq_true q313; have p314 : 0 ≤ ((ji81) : Int) := of_decide_eq_true (by first | (with_reducible assumption) | assumption); have q314 : (ji81) < (t298.length : Int) := of_decide_eq_true (by first | (with_reducible assumption) | assumption); obtain ⟨ad314, e314, hx314_0⟩ := Kd.at_int (Kd.R_reads' HO_9.out).2.2 (ji81) p314 q314; cases e314; replace p314 := eq_true p314; replace q314 := eq_true q314; go_wp2; go_ret; exact ⟨by first | rfl | (simp [errW_none, errW_some] <;> rfl) | (simp only [← hji22, ← hji81]; first | rfl | (simp [errW_none, errW_some] <;> rfl)) | (simp [*, errW_none, errW_some] <;> rfl), by repeat (first | (with_reducible first | exact HB.out | apply below_alloc | apply pw_below_drewN | apply below_drew1) | exact HB.out)⟩
                            ·rw [if_neg c83] at H; exact absurd H (by simp)
                           ·rw [if_neg c82] at H; exact absurd H (by simp)
                          ·rw [if_neg c80] at H; have c80b0 : ((t298.length : Int) == (wrap64 ((rd x11_4 a2) + 1))) = false := beq_eq_false_iff_ne.mpr c80
                           (try simp only [hl11_4] at c80b0)
                           have c80b1 : ((t298.length : Int) != (wrap64 ((rd x11_4 a2) + 1))) = true := bne_iff_ne.mpr c80
                           (try simp only [hl11_4] at c80b1)
                           as_aux_lemma =>
                            obtain rfl := Option.some.inj H; obtain ⟨Ao85, co85, eo85⟩ := Kd.R_slice HO_9.out; subst eo85; have p313 : 0 ≤ (a2 : Int) := of_decide_eq_true (by first | (with_reducible assumption) | assumption); have q313 : a2 < (x11_4.length : Int) := of_decide_eq_true (by first | (with_reducible assumption) | assumption); obtain ⟨ad313, e313, hx313_0⟩ := Kd.at_int (Kd.R_reads' HO_11.out).2.2 a2 p313 q313; obtain rfl : (⟨go35, 0, none⟩ : Addr) = ad313 := (by injection e313)
                            (first | simp only [add_plain] at hx313_0 | simp only [add_at] at hx313_0 | simp only [Addr.add, Nat.zero_add] at hx313_0 | skip)
                            replace p313 := eq_true p313; replace q313 := eq_true q313; go_wp2; go_ret; exact ⟨by first | rfl | (simp [errW_none, errW_some] <;> rfl) | (simp only [← hji22]; first | rfl | (simp [errW_none, errW_some] <;> rfl)) | (simp [*, errW_none, errW_some] <;> rfl), by repeat (first | (with_reducible first | exact HB.out | apply below_alloc | apply pw_below_drewN | apply below_drew1) | exact HB.out)⟩
                         ·rw [if_neg c79] at H; exact absurd H (by simp)
                        ·rw [if_neg c78] at H; exact absurd H (by simp)
                       ·replace c77 := Bool.eq_false_iff.mpr c77; subst c77
                        have H1 : (some false) = some r := by rw [if_neg (show ¬ (false = true) by decide)] at H; exact H
                        clear H; have H := H1; clear H1
                        as_aux_lemma =>
                         obtain rfl := Option.some.inj H; obtain ⟨Ao86, co86, eo86⟩ := Kd.R_slice HO_9.out; subst eo86; go_wp2; go_ret; exact ⟨by first | rfl | (simp [errW_none, errW_some] <;> rfl) | (simp only [← hji22]; first | rfl | (simp [errW_none, errW_some] <;> rfl)) | (simp [*, errW_none, errW_some] <;> rfl), by repeat (first | (with_reducible first | exact HB.out | apply below_alloc | apply pw_below_drewN | apply below_drew1) | exact HB.out)⟩
                  ·rw [if_neg c53] at H; exact absurd H (by simp)
                 ·rw [if_neg c52] at H; exact absurd H (by simp)
             ·rw [if_neg c34] at H; exact absurd H (by simp)
            ·rw [if_neg c33] at H; exact absurd H (by simp)
        ·rw [if_neg c24] at H; exact absurd H (by simp)
       ·rw [if_neg c23] at H; exact absurd H (by simp)
 ·replace c6 := Bool.eq_false_iff.mpr c6; subst c6
  have H1 : (some false) = some r := by rw [if_neg (show ¬ (false = true) by decide)] at H; exact H
  clear H; have H := H1; clear H1
  as_aux_lemma =>
   obtain rfl := Option.some.inj H
   go_enter Try.func5, Try.ntmps5
   go_wp2_with (first | ((with_reducible refine gate_callee (f := 6) rfl ?_); refine goesL_ (some 19) rfl rfl Try.func6 (by kernel_rfl) rfl #[] rfl (by (try simp only [List.map_toArray, List.map_cons, List.map_nil]); first | done | rfl | (simp only [List.length_drop, List.length_take]; rfl)) ?_; (with_reducible refine (croftlaw42_alive.calls k  false _ A5.out).mono ?_); rintro e w87 ⟨rfl, hb⟩; refine ⟨_, rfl, ?_⟩; have n0_ := Aside0.mk (Kd.V_below (by (with_reducible repeat (first | apply Kd.V_alloc | apply Kd.V_drewN | apply Kd.V_drew)); exact HO1.out) hb); have n1_ := Aside0.mk (below_step (by repeat (first | (with_reducible first | exact HB.out | apply below_alloc | apply pw_below_drewN | apply below_drew1) | exact HB.out)) hb); clear HO1; clear HB; have HO1 := n0_; have HB := n1_; clear n0_ n1_; (try clear hb); (try clear hb2); (try clear hk); (try clear hi)))
   go_ret; exact ⟨by first | rfl | (simp [errW_none, errW_some] <;> rfl) | (simp [*, errW_none, errW_some] <;> rfl), by repeat (first | (with_reducible first | exact HB.out | apply below_alloc | apply pw_below_drewN | apply below_drew1) | exact HB.out)⟩

end Go.Proofs.Ytjalbacdcfbmgaa.P
