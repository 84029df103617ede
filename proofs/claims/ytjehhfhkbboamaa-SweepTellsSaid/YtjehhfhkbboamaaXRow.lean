-- Written by xprint.py, a program of this work, round the kit's print.
/- A row of the print's words whose elements lead nowhere (flat), told in the words of the shelf's sort, and back. -/
import Derived.Test.YtjehhfhkbboamaaPx0
import Derived.Shelf.SlSortCmp.WholeK
namespace Go.Proofs.Ytjehhfhkbboamaa.P
open Go.RowKit Go.Proofs.YtjehhfhkbboamaaW.PrintWords Go.Proofs.YtjehhfhkbboamaaW.PrintLast Go.Proofs.YtjehhfhkbboamaaW.PrintMore
attribute [local go_sem] max2_int min2_int max_two min_two max_three min_three max_four min_four   -- for this text's walks alone
attribute [local go_sem] add64_run carryOk_zero   -- for this text's walks alone
set_option linter.unusedVariables false
set_option linter.unusedSimpArgs false

open Go.Sort
structure FlatKd {α : Type} (d : Kd α) (enc : α → List Value) : Prop where
  len : ∀ x, (enc x).length = d.sz
  one : ∀ x, ∀ v ∈ enc x, v.oneCell' = true
  M : ∀ w base ok x cs, d.M w base ok x cs ↔ cs = enc x

theorem cut_at {β : Type} (l : List β) (a k c : Nat) (hc : c < k) : ((l.drop a).take k)[c]? = l[a + c]? := by
  rw [List.getElem?_take, if_pos hc, List.getElem?_drop]

theorem div_at (i c k : Nat) (hc : c < k) : (i * k + c) / k = i ∧ (i * k + c) % k = c := by
  have h0 : 0 < k := by omega
  constructor
  · rw [Nat.mul_comm, Nat.mul_add_div h0, Nat.div_eq_of_lt hc, Nat.add_zero]
  · rw [Nat.mul_comm, Nat.mul_add_mod, Nat.mod_eq_of_lt hc]

section
variable {α : Type} [Inhabited α] {d : Kd α} {enc : α → List Value} {e : Nat} {w w0 : World} {base : Nat} {ok : Nat → Prop} {v : Value} {xs ys : List α}

/-- What stands in a row's block. -/
theorem FlatKd.at_ (F : FlatKd d enc) {g cap : Nat} {cur : Array Value} {inner : List Value} (hcur : cur.toList.take (xs.length * d.sz) = inner) (hr : Reps (d.M w base ok) d.sz xs inner) (t : Nat) (ht : t < xs.length * d.sz) :
    cur[t]? = some (flatK enc d.sz xs.toArray)[t]! := by
  have k0 : 0 < d.sz := by rcases Nat.eq_zero_or_pos d.sz with h | h; · rw [h] at ht; simp at ht
                           · exact h
  have hi : t / d.sz < xs.length := Nat.div_lt_of_lt_mul (by rw [Nat.mul_comm]; exact ht)
  have hc : t % d.sz < d.sz := Nat.mod_lt _ k0
  have he : t / d.sz * d.sz + t % d.sz = t := by rw [Nat.mul_comm]; exact Nat.div_add_mod _ _
  have h1 := (F.M _ _ _ _ _).1 (hr.2 (t / d.sz) (xs[t / d.sz]) (List.getElem?_eq_getElem hi))
  have h2 : (((inner.drop (t / d.sz * d.sz)).take d.sz))[t % d.sz]? = (enc xs[t / d.sz])[t % d.sz]? := by rw [h1]
  rw [cut_at _ _ _ _ hc, he, ← hcur, List.getElem?_take, if_pos ht] at h2
  rw [get_flatK _ _ _ _ (by simpa using ht)]
  have h3 : (xs.toArray)[t / d.sz]! = xs[t / d.sz] := by
    have := getElem!_pos xs.toArray (t / d.sz) (by simpa using hi)
    simpa using this
  rw [h3]
  have h4 : t % d.sz < (enc xs[t / d.sz]).length := by rw [F.len]; exact hc
  have h5 : (enc xs[t / d.sz])[t % d.sz]! = (enc xs[t / d.sz])[t % d.sz] := getElem!_pos (enc xs[t / d.sz]) (t % d.sz) h4
  rw [h5]
  rw [List.getElem?_eq_getElem h4, Array.getElem?_toList] at h2
  exact h2

theorem frozen_none {g t : Nat} {cur : Array Value} {e : TypeId} (h : w.heap[g]? = some (.cells cur e (0, 0))) : w.frozen? ⟨g, t, none⟩ = false := by
  unfold World.frozen?
  simp [h]

/-- An owned row of the print's, as the sort's contract asks it. -/
theorem FlatKd.holds (F : FlatKd d enc) (h : d.R e w base ok v xs) (h0 : xs ≠ []) :
    ∃ g cap, v = .slice (some ⟨g, 0, none⟩) xs.length cap ∧ (xs.length ≤ cap ∧ cap ≤ 9223372036854775807) ∧ g < w.heap.size ∧ base ≤ g ∧ HoldsK enc d.sz w g 0 xs.toArray := by
  obtain ⟨_, inner, ⟨hl, ho⟩, hr⟩ := h
  rcases ho with ⟨_, hz⟩ | ⟨g, cap, cur, rfl, hb, hh, hn, hm, hs, ht⟩
  · exact absurd (List.eq_nil_of_length_eq_zero hz) h0
  refine ⟨g, cap, rfl, ⟨hn, by simpa [maxLen] using hm⟩, (Array.getElem?_eq_some_iff.1 hh).1, hb, fun t hlt => ?_⟩
  have hlt' : t < xs.length * d.sz := by simpa using hlt
  refine ⟨?_, frozen_none hh⟩
  have := F.at_ (g := g) (cap := cap) ht hr t hlt'
  simp only [World.cell?, hh, Nat.zero_add, id]
  simpa using this

theorem heap_sorted {g n : Nat} {cur : Array Value} {os : Array Obj} {Fl : Array Value} (hh : w.heap[g]? = some (.cells cur e (0, 0))) :
    (grow (putRow id (Go.Sort.ahead w n) g 0 Fl) os).heap[g]? = some (.cells (putCells id 0 Fl cur) e (0, 0)) := by
  have hg : g < w.heap.size := (Array.getElem?_eq_some_iff.1 hh).1
  simp only [grow, putRow, mapBlock, Go.Sort.ahead]
  rw [Array.getElem?_append_left (by simpa using hg), Array.getElem?_modify, if_pos rfl, hh]
  rfl

theorem heap_sorted_other {g n i : Nat} {os : Array Obj} {Fl : Array Value} (hi : i < w.heap.size) (hne : i ≠ g) :
    (grow (putRow id (Go.Sort.ahead w n) g 0 Fl) os).heap[i]? = w.heap[i]? := by
  simp only [grow, putRow, mapBlock, Go.Sort.ahead]
  rw [Array.getElem?_append_left (by simpa using hi), Array.getElem?_modify, if_neg (Ne.symm hne)]

theorem heap_sorted_size {g n : Nat} {os : Array Obj} {Fl : Array Value} : w.heap.size ≤ (grow (putRow id (Go.Sort.ahead w n) g 0 Fl) os).heap.size := by
  simp only [grow, putRow, mapBlock, Go.Sort.ahead]
  rw [Array.size_append, Array.size_modify]
  omega

/-- A row that was written over by the sort (or otherwise), in the print's words again. -/
theorem FlatKd.back (F : FlatKd d enc) (h : d.R e w base ok v xs) (hl : ys.length = xs.length) {g cap : Nat} (hv : v = .slice (some ⟨g, 0, none⟩) xs.length cap) (n : Nat) (os : Array Obj) :
    d.R e (grow (putRow id (Go.Sort.ahead w n) g 0 (flatK enc d.sz ys.toArray)) os) base ok v ys := by
  obtain ⟨hok, inner, ⟨hil, ho⟩, hr⟩ := h
  refine ⟨hok, ?_⟩
  rcases ho with ⟨rfl, hz⟩ | ⟨g', cap', cur, hv', hb, hh, hn, hm, hs, ht⟩
  · exact absurd hv (by simp)
  rw [hv] at hv'
  injection hv' with hv1 _ hv3
  injection hv1 with hv1
  injection hv1 with hv1
  subst hv1 hv3
  have hsz : (putCells id 0 (flatK enc d.sz ys.toArray) cur).size = cur.size := by simp [putCells]
  have hsl : (putCells id 0 (flatK enc d.sz ys.toArray) cur).toList.length = cur.size := by simp [putCells]
  have hle : xs.length * d.sz ≤ cur.size := by rw [hs]; exact Nat.mul_le_mul_right _ hn
  have hget : ∀ t, t < ys.length * d.sz → (putCells id 0 (flatK enc d.sz ys.toArray) cur)[t]? = some (flatK enc d.sz ys.toArray)[t]! := by
    intro t htl
    have h1 : t < cur.size := by rw [hl] at htl; omega
    unfold putCells
    rw [Array.getElem?_mapIdx, Array.getElem?_eq_getElem h1, Option.map_some, if_pos ⟨Nat.zero_le _, by simpa using htl⟩]
    rfl
  refine ⟨(putCells id 0 (flatK enc d.sz ys.toArray) cur).toList.take (ys.length * d.sz), ⟨?_, .inr ⟨g, cap, putCells id 0 (flatK enc d.sz ys.toArray) cur, ?_, hb, heap_sorted hh, by omega, hm, by rw [hsz, hs], rfl⟩⟩, ?_, ?_⟩
  · rw [List.length_take, hsl, hl]; omega
  · rw [hv, hl]
  · rw [List.length_take, hsl, hl]; omega
  · intro j p hj
    have hjl : j < ys.length := (List.getElem?_eq_some_iff.1 hj).1
    rw [F.M]
    apply List.ext_getElem?
    intro c
    by_cases hc : c < d.sz
    · have hlt : j * d.sz + c < ys.length * d.sz := by
        have := Nat.mul_le_mul_right d.sz (show j + 1 ≤ ys.length from hjl)
        rw [Nat.add_mul, Nat.one_mul] at this; omega
      rw [cut_at _ _ _ _ hc, List.getElem?_take, if_pos hlt, Array.getElem?_toList, hget _ hlt, get_flatK _ _ _ _ (by simpa using hlt), (div_at j c d.sz hc).1, (div_at j c d.sz hc).2]
      have hp : (ys.toArray)[j]! = p := by
        have h6 := getElem!_pos ys.toArray j (by simpa using hjl)
        have := (List.getElem?_eq_some_iff.1 hj).2
        rw [h6]
        simpa using this
      rw [hp]
      have h4 : c < (enc p).length := by rw [F.len]; exact hc
      have h5 : (enc p)[c]! = (enc p)[c] := getElem!_pos (enc p) c h4
      rw [h5, List.getElem?_eq_getElem h4]
    · rw [List.getElem?_eq_none (by rw [List.length_take]; omega), List.getElem?_eq_none (by rw [F.len]; omega)]

/-- All that the print asks behind a call that wrote one row over. -/
theorem FlatKd.after (F : FlatKd d enc) {P : Nat → Prop} (hB : Below w0.heap.size w0 w) (h : d.R e w w0.heap.size P v xs) (hl : ys.length = xs.length) {g cap : Nat} (hv : v = .slice (some ⟨g, 0, none⟩) xs.length cap) (n : Nat) (os : Array Obj) :
    d.R e (grow (putRow id (Go.Sort.ahead w n) g 0 (flatK enc d.sz ys.toArray)) os) w0.heap.size (fun k_ => (P k_ ∨ w.heap.size ≤ k_)) v ys ∧ Below w0.heap.size w0 (grow (putRow id (Go.Sort.ahead w n) g 0 (flatK enc d.sz ys.toArray)) os) ∧ Kept w (grow (putRow id (Go.Sort.ahead w n) g 0 (flatK enc d.sz ys.toArray)) os) (fun k_ => P k_) := by
  have hgb : w0.heap.size ≤ g := Kd.R_base h g (by rw [hv]; rfl)
  refine ⟨Kd.R_mono (F.back h hl hv n os) (fun k hk => .inl hk), ⟨hB.os, hB.tape, hB.output, Nat.le_trans hB.size heap_sorted_size, fun i hi => ?_⟩, heap_sorted_size, fun i hi hn => ?_⟩
  · rw [heap_sorted_other (Nat.lt_of_lt_of_le hi hB.size) (by omega)]
    exact hB.block i hi
  · exact heap_sorted_other hi (fun he => hn (he ▸ h.1 g (by rw [hv]; rfl)))
end
/-- .. that left all as it was. -/
theorem same_after {α : Type} {d : Kd α} {e : Nat} {w w0 : World} {v : Value} {xs : List α} {P : Nat → Prop} (hB : Below w0.heap.size w0 w) (h : d.R e w w0.heap.size P v xs) :
    d.R e w w0.heap.size (fun k_ => (P k_ ∨ w.heap.size ≤ k_)) v xs ∧ Below w0.heap.size w0 w ∧ Kept w w (fun k_ => P k_) :=
  ⟨Kd.R_mono h (fun k hk => .inl hk), hB, Kept.refl w _⟩

end Go.Proofs.Ytjehhfhkbboamaa.P
