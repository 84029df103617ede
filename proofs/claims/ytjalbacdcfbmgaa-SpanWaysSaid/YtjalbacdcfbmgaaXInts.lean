-- Written by xprint.py, a program of this work, round the kit's print.
/- slices.Sort and slices.Compact over ints, in the print's own form. -/
import Derived.Test.YtjalbacdcfbmgaaPx0
import Derived.Test.YtjalbacdcfbmgaaXRow
import Derived.Test.YtjalbacdcfbmgaaShelf
namespace Go.Proofs.Ytjalbacdcfbmgaa.P
open Go.RowKit Go.Proofs.YtjalbacdcfbmgaaW.PrintWords Go.Proofs.YtjalbacdcfbmgaaW.PrintLast Go.Proofs.YtjalbacdcfbmgaaW.PrintMore
attribute [local go_sem] max2_int min2_int max_two min_two max_three min_three max_four min_four   -- for this text's walks alone
attribute [local go_sem] add64_run carryOk_zero   -- for this text's walks alone
set_option linter.unusedVariables false
set_option linter.unusedSimpArgs false

open Go.Sort
def encOne (x : Int) : List Value := [.int .i64 x]
theorem flatOne : FlatKd (Kd.int .i64) encOne where
  len _ := rfl
  one x v hv := by simp [encOne] at hv; subst hv; rfl
  M w base ok x cs := ⟨fun h => h, fun h => h⟩
theorem flatK_one (d : Array Int) : flatK encOne 1 d = d.map (Value.int .i64) := by
  apply Array.ext
  · simp
  · intro i h1 h2
    have hi : i < d.size := by simpa using h2
    have h3 := get_flatK encOne 1 d i (by simpa using hi)
    rw [getElem!_pos _ i h1] at h3
    rw [h3, Nat.div_one, Nat.mod_one]
    have h4 : d[i]! = d[i] := getElem!_pos d i hi
    rw [h4]
    simp [encOne]
theorem putRow_one (w : World) (g : Nat) (d : Array Int) : putRow (Value.int .i64) w g 0 d = putRow id w g 0 (flatK encOne 1 d) := by
  unfold putRow
  refine mapBlock_congr _ _ _ _ fun c e fr _ => ?_
  rw [flatK_one]
  unfold putCells
  apply Array.ext
  · simp
  · intro i h1 h2
    simp only [Array.getElem_mapIdx, Array.size_map]
    by_cases hi : 0 ≤ i ∧ i < 0 + d.size
    · rw [if_pos hi, if_pos hi]
      have hj : i - 0 < d.size := by omega
      have h4 : d[i - 0]! = d[i - 0] := getElem!_pos d (i - 0) hj
      have h5 : (d.map (Value.int .i64))[i - 0]! = (d.map (Value.int .i64))[i - 0]'(by simpa using hj) := getElem!_pos (d.map (Value.int .i64)) (i - 0) (by simpa using hj)
      rw [h4, h5]
      simp
    · rw [if_neg hi, if_neg hi]
theorem holds_one {w : World} {g : Nat} {d : Array Int} (h : HoldsK encOne 1 w g 0 d) : Holds (Value.int .i64) w g 0 d := by
  intro j hj
  have h1 := h j (by simpa using hj)
  have h2 := get_flatK encOne 1 d j (by simpa using hj)
  rw [h2, Nat.div_one, Nat.mod_one] at h1
  exact h1
def sortInts.f (l : List Int) : Option (List Int) := if l.length < 4611686018427387904 then some (l.mergeSort (fun a b => decide (a ≤ b))) else none
theorem sortInts.calls (P0_ : Nat → Prop) (u9000_ : Value) (l0 : List Int) (r : List Int) (w0 w : World) (hB : Below w0.heap.size w0 w) (ho0 : Kd.R (Kd.int .i64) 3 w w0.heap.size P0_ u9000_ l0) (h : sortInts.f l0 = some r) :
    Calls Try.prog 24 #[u9000_] w fun e w' => e = .returned (.tuple #[]) ∧ Kd.R (Kd.int .i64) 3 w' w0.heap.size (fun k_ => (P0_ k_ ∨ w.heap.size ≤ k_)) u9000_ r ∧ Below w0.heap.size w0 w' ∧ Kept w w' (fun k_ => P0_ k_) := by
  unfold sortInts.f at h
  by_cases hl : l0.length < 4611686018427387904
  · rw [if_pos hl] at h
    obtain rfl := Option.some.inj h
    by_cases h0 : l0 = []
    · subst h0
      obtain ⟨A, c, hv⟩ := Kd.R_slice ho0
      subst hv
      have hcon := Any.slices_Sort_int_none Try.laysSortInt A c w
      refine hcon.mono fun e w' hw => ?_
      obtain ⟨he, hw⟩ := hw
      subst hw
      exact ⟨he, by simpa using same_after hB ho0⟩
    · obtain ⟨g, cap, rfl, ⟨hn, hm⟩, hg, hb, hH⟩ := flatOne.holds ho0 h0
      have hcon := Any.slices_Sort_int Try.laysSortInt g 0 cap l0 w (holds_one hH) hg hl
      refine hcon.mono fun e w' hw => ?_
      obtain ⟨he, n, os, hw⟩ := hw
      rw [putRow_one] at hw
      subst hw
      exact ⟨he, flatOne.after hB ho0 (List.length_mergeSort ..) rfl n os⟩
  · rw [if_neg hl] at h
    simp at h
def compactInts.f (l : List Int) : Option (List Int) := some (Lib.compact l)
theorem compactUpTo_le (d : Array Int) (m : Nat) : (Lib.compactUpTo d m).length ≤ m := by
  induction m with
  | zero => simp [Lib.compactUpTo]
  | succ m ih =>
    rw [Lib.compactUpTo_succ]
    split
    · simp; omega
    · simp; omega
theorem compact_le (l : List Int) : (Lib.compact l).length ≤ l.length := compactUpTo_le _ _
theorem compactInts.calls (P0_ : Nat → Prop) (u9000_ : Value) (l0 : List Int) (r : List Int) (w0 w : World) (hB : Below w0.heap.size w0 w) (ho0 : Kd.R (Kd.int .i64) 3 w w0.heap.size P0_ u9000_ l0) (h : compactInts.f l0 = some r) :
    Calls Try.prog 25 #[u9000_] w fun e w' => ∃ v0_ : Value, e = .returned (v0_) ∧ Kd.R (Kd.int .i64) 3 w' w0.heap.size (fun k_ => (P0_ k_ ∨ w.heap.size ≤ k_)) v0_ r ∧ Below w0.heap.size w0 w' ∧ Kept w w' (fun k_ => P0_ k_) := by
  unfold compactInts.f at h
  obtain rfl := Option.some.inj h
  by_cases h0 : l0 = []
  · subst h0
    obtain ⟨A, c, hv⟩ := Kd.R_slice ho0
    subst hv
    have hcon := Any.slices_Compact_int_empty Try.laysCompact A c w
    refine hcon.mono fun e w' hw => ?_
    obtain ⟨he, hw⟩ := hw
    subst hw
    exact ⟨_, he, by simpa [Lib.compact, Lib.compactUpTo] using same_after hB ho0⟩
  · obtain ⟨g, cap, rfl, ⟨hn, hm⟩, hg, hb, hH⟩ := flatOne.holds ho0 h0
    have hcon := Any.slices_Compact_int Try.laysCompact g 0 cap l0 w (holds_one hH) (by omega) hn
    refine hcon.mono fun e w' hw => ?_
    obtain ⟨he, q, hw⟩ := hw
    rw [putRow_one] at hw
    have hle := compact_le l0
    have hlen : (Lib.compact l0 ++ List.replicate (l0.length - (Lib.compact l0).length) 0).length = l0.length := by
      rw [List.length_append, List.length_replicate]; omega
    have ha := flatOne.after hB ho0 hlen rfl q #[]
    have hw2 : w' = grow (putRow id (Go.Sort.ahead w q) g 0 (flatK encOne 1 (Lib.compact l0 ++ List.replicate (l0.length - (Lib.compact l0).length) 0).toArray)) #[] := by rw [hw, grow_empty]
    subst hw2
    refine ⟨_, he, ?_, ha.2⟩
    have ht := Kd.R_take (m := (Lib.compact l0).length) ha.1 (by rw [hlen]; exact hle)
    rw [List.take_left'  rfl] at ht
    exact ht

end Go.Proofs.Ytjalbacdcfbmgaa.P
