/- SpanLongest, over lists and numbers: the last of the longest roads is found; no other one is longer. -/
import Derived.Test.YtjalbacdcfbmgaaStSpanLongest
import Derived.Test.YtjalbacdcfbmgaaLAlive
namespace Go.Proofs.Ytjalbacdcfbmgaa.Pure
open Go.RowKit Go.Proofs.YtjalbacdcfbmgaaW.PrintWords Go.Proofs.YtjalbacdcfbmgaaW.PrintLast Go.Proofs.YtjalbacdcfbmgaaW.PrintMore
open Go.Proofs.Ytjalbacdcfbmgaa.P
/-- By length alone. -/
def ltD (a b : S31) : Prop := a.f2.f0 < b.f2.f0 ∨ (a.f2.f0 = b.f2.f0 ∧ a.f2.f1 < b.f2.f1)
instance (a b : S31) : Decidable (ltD a b) := by unfold ltD; infer_instance
def eqD (a b : S31) : Prop := a.f2.f0 = b.f2.f0 ∧ a.f2.f1 = b.f2.f1
theorem cmpDist_ge (a b : S31) : cmpDist a.f2.f0 a.f2.f1 b.f2.f0 b.f2.f1 ≥ 0 ↔ ¬ ltD a b := by
  simp only [cmpDist, orI, cmp3, ltD]
  repeat' split
  all_goals omega
theorem cmpDist_gt (a b : S31) : cmpDist a.f2.f0 a.f2.f1 b.f2.f0 b.f2.f1 > 0 ↔ ltD b a := by
  simp only [cmpDist, orI, cmp3, ltD]
  repeat' split
  all_goals omega
theorem wide_Cmp_ev (a0 a1 b0 b1 : Int) : Ev (fun k => wide_Cmp.f k a0 a1 b0 b1) (cmpDist a0 a1 b0 b1) :=
  Ev.of (fun k => wide_Cmp.mono a0 a1 b0 b1 k) (wide_Cmp_val a0 a1 b0 b1)
structure Best (l : List S31) (i b : Nat) : Prop where
  lt : b < l.length
  le : ∀ j, j < i → ¬ ltD (rdr l b) (rdr l j)
  last : ∀ j, j < i → eqD (rdr l j) (rdr l b) → j ≤ b
theorem longest_loop {l : List S31} (hm : l.length ≤ 9223372036854775807) : ∀ (m i b : Nat), i + m = l.length → Best l i b →
    ∃ b', Best l l.length b' ∧ Ev (fun k => span_Longest.l0 k l (l.length : Int) (i : Int) (rdr l b).f0 (rdr l b).f1 (rdr l b).f2.f0 (rdr l b).f2.f1) ((rdr l b').f0, (rdr l b').f1, (rdr l b').f2.f0, (rdr l b').f2.f1, true) := by
  intro m
  induction m with
  | zero =>
    intro i b hi hb
    have : i = l.length := by omega
    subst this
    refine ⟨b, hb, Ev.step (f := fun _ => some ((rdr l b).f0, (rdr l b).f1, (rdr l b).f2.f0, (rdr l b).f2.f1, true)) (fun k => ?_) (Ev.now _)⟩
    simp only [span_Longest.l0]
    rw [if_neg (by omega)]
  | succ m ih =>
    intro i b hi hb
    have hil : i < l.length := by omega
    by_cases hlt : ltD (rdr l i) (rdr l b)
    · obtain ⟨b', h1, h2⟩ := ih (i + 1) b (by omega) ⟨hb.lt, fun j hj => by
        by_cases e : j = i
        · subst e; unfold ltD at hlt ⊢; omega
        · exact hb.le j (by omega), fun j hj he => by
        by_cases e : j = i
        · subst e; unfold ltD at hlt; unfold eqD at he; omega
        · exact hb.last j (by omega) he⟩
      refine ⟨b', h1, Ev.step (f := fun k => (wide_Cmp.f k (rdr l i).f2.f0 (rdr l i).f2.f1 (rdr l b).f2.f0 (rdr l b).f2.f1).bind fun t => if t ≥ 0 then span_Longest.l0 k l (l.length : Int) ((i + 1 : Nat) : Int) (rdr l i).f0 (rdr l i).f1 (rdr l i).f2.f0 (rdr l i).f2.f1 else span_Longest.l0 k l (l.length : Int) ((i + 1 : Nat) : Int) (rdr l b).f0 (rdr l b).f1 (rdr l b).f2.f0 (rdr l b).f2.f1) (fun k => ?_) (Ev.bind (wide_Cmp_ev _ _ _ _) ?_)⟩
      · simp only [span_Longest.l0]
        rw [if_pos (by omega), if_pos (by omega), if_pos (by omega), rdT31_at, wrap_succ i (by omega)]
      · refine Ev.congr (fun k => ?_) h2
        rw [if_neg (fun h => (cmpDist_ge _ _).1 h hlt)]
    · obtain ⟨b', h1, h2⟩ := ih (i + 1) i (by omega) ⟨hil, fun j hj => by
        by_cases e : j = i
        · subst e; unfold ltD; omega
        · have := hb.le j (by omega); unfold ltD at this hlt ⊢; omega, fun j hj _ => by omega⟩
      refine ⟨b', h1, Ev.step (f := fun k => (wide_Cmp.f k (rdr l i).f2.f0 (rdr l i).f2.f1 (rdr l b).f2.f0 (rdr l b).f2.f1).bind fun t => if t ≥ 0 then span_Longest.l0 k l (l.length : Int) ((i + 1 : Nat) : Int) (rdr l i).f0 (rdr l i).f1 (rdr l i).f2.f0 (rdr l i).f2.f1 else span_Longest.l0 k l (l.length : Int) ((i + 1 : Nat) : Int) (rdr l b).f0 (rdr l b).f1 (rdr l b).f2.f0 (rdr l b).f2.f1) (fun k => ?_) (Ev.bind (wide_Cmp_ev _ _ _ _) ?_)⟩
      · simp only [span_Longest.l0]
        rw [if_pos (by omega), if_pos (by omega), if_pos (by omega), rdT31_at, wrap_succ i (by omega)]
      · refine Ev.congr (fun k => ?_) h2
        rw [if_pos ((cmpDist_ge _ _).2 hlt)]
theorem law_loop {l : List S31} (hm : l.length ≤ 9223372036854775807) {b : Nat} (hb : Best l l.length b) : ∀ (m i : Nat) (at_ : Int), i + m = l.length →
    (∀ j, j < i → eqD (rdr l j) (rdr l b) → (j : Int) ≤ at_) → (at_ = -1 ∨ ∃ a, a < i ∧ at_ = a ∧ eqD (rdr l a) (rdr l b)) →
    Ev (fun k => croftlaw42_SpanLongest.l0 k l true at_ (i : Int) (rdr l b).f0 (rdr l b).f1 (rdr l b).f2.f0 (rdr l b).f2.f1) true := by
  intro m
  induction m with
  | zero =>
    intro i a_ hi h1 h2
    have : i = l.length := by omega
    subst this
    have hbe : eqD (rdr l b) (rdr l b) := ⟨rfl, rfl⟩
    have h3 := h1 b hb.lt hbe
    have h4 : a_ = b := by
      rcases h2 with h2 | ⟨a, ha, rfl, he⟩
      · omega
      · have := hb.last a ha he
        omega
    subst h4
    have hlt := hb.lt
    refine Ev.step (f := fun _ => some true) (fun k => ?_) (Ev.now _)
    simp only [croftlaw42_SpanLongest.l0]
    rw [if_neg (by omega), if_pos trivial, if_pos (by omega), if_pos (by omega), rdT31_at]
    simp
  | succ m ih =>
    intro i a_ hi h1 h2
    have hil : i < l.length := by omega
    have hgt : ¬ (cmpDist (rdr l i).f2.f0 (rdr l i).f2.f1 (rdr l b).f2.f0 (rdr l b).f2.f1 > 0) := fun h => hb.le i hil ((cmpDist_gt _ _).1 h)
    refine Ev.step (f := fun k => (wide_Cmp.f k (rdr l i).f2.f0 (rdr l i).f2.f1 (rdr l b).f2.f0 (rdr l b).f2.f1).bind fun t => if t > 0 then some false else if ((rdr l i).f2.f0 == (rdr l b).f2.f0 && ((rdr l i).f2.f1 == (rdr l b).f2.f1)) = true then croftlaw42_SpanLongest.l0 k l true (i : Int) ((i + 1 : Nat) : Int) (rdr l b).f0 (rdr l b).f1 (rdr l b).f2.f0 (rdr l b).f2.f1 else croftlaw42_SpanLongest.l0 k l true a_ ((i + 1 : Nat) : Int) (rdr l b).f0 (rdr l b).f1 (rdr l b).f2.f0 (rdr l b).f2.f1) (fun k => ?_) (Ev.bind (wide_Cmp_ev _ _ _ _) ?_)
    · simp only [croftlaw42_SpanLongest.l0]
      rw [if_pos (by omega), if_pos (by omega), rdT31_at, wrap_succ i (by omega)]
    · by_cases he : eqD (rdr l i) (rdr l b)
      · refine Ev.congr (fun k => ?_) (ih (i + 1) (i : Int) (by omega) (fun j hj _ => by omega) (.inr ⟨i, by omega, rfl, he⟩))
        rw [if_neg hgt, if_pos (by unfold eqD at he; simp [he])]
      · refine Ev.congr (fun k => ?_) (ih (i + 1) a_ (by omega) (fun j hj h => by
          by_cases e : j = i
          · subst e; exact absurd h he
          · exact h1 j (by omega) h) (h2.imp id fun ⟨a, ha, h3, h4⟩ => ⟨a, by omega, h3, h4⟩))
        rw [if_neg hgt, if_neg (by unfold eqD at he; simpa using he)]
theorem SpanLongest : SpanLongest_Pure := by
  intro l hm _
  refine Ev.rounds (g := fun k => croftlaw42_SpanLongest.f k l) ?_
  unfold croftlaw42_SpanLongest.f
  refine Ev.bind alive_val ?_
  simp only [if_true]
  by_cases h0 : l.length = 0
  · refine Ev.bind (a := (0, 0, 0, 0, false)) (Ev.congr (fun k => ?_) (Ev.now _)) ?_
    · unfold span_Longest.f
      rw [if_pos (by omega)]
    · refine Ev.congr (fun k => ?_) (Ev.now _)
      rw [if_pos (by omega)]
      simp
  · have hb0 : Best l 0 0 := ⟨by omega, fun j hj => by omega, fun j hj => by omega⟩
    obtain ⟨b, hb, hev⟩ := longest_loop hm l.length 0 0 (by omega) hb0
    refine Ev.bind (Ev.congr (fun k => ?_) hev) ?_
    · unfold span_Longest.f
      rw [if_neg (by omega), if_pos (by omega)]
      have := rdT31_at l 0
      rw [show ((0 : Nat) : Int) = 0 from rfl] at this
      rw [this]
      rfl
    · refine Ev.congr (fun k => ?_) (law_loop hm hb l.length 0 (-1) (by omega) (fun j hj => by omega) (.inl rfl))
      rw [if_neg (by omega)]
      rfl
end Go.Proofs.Ytjalbacdcfbmgaa.Pure
