-- Written by xprint.py, a program of this work, round the kit's print.
/- slices.Clone, in the print's own form: the same elements in a row of its own. -/
import Derived.Test.YtjehhfhkbboamaaPx0
import Derived.Lib.SliceRun
namespace Go.Proofs.Ytjehhfhkbboamaa.P
open Go.RowKit Go.Proofs.YtjehhfhkbboamaaW.PrintWords Go.Proofs.YtjehhfhkbboamaaW.PrintLast Go.Proofs.YtjehhfhkbboamaaW.PrintMore
attribute [local go_sem] max2_int min2_int max_two min_two max_three min_three max_four min_four   -- for this text's walks alone
attribute [local go_sem] add64_run carryOk_zero   -- for this text's walks alone
set_option linter.unusedVariables false
set_option linter.unusedSimpArgs false

def cloneR.f (l : List S28) : Option (List S28) := if l.length ≤ 1000000 then some l else none
theorem cloneR.calls (A0 : Option Addr) (c0 : Nat) (l0 : List S28) (r : List S28) (w : World) (hr0 : Kd.C k28 w A0 l0.length l0) (hc0 : l0.length ≤ c0) (h : cloneR.f l0 = some r) :
    Calls Try.prog 22 #[.slice A0 l0.length c0] w fun e w' => ∃ v0_ : Value, e = .returned (v0_) ∧ Kd.R k28 28 w' w.heap.size (fun _ => True) v0_ r ∧ Below w.heap.size w w' := by
  unfold cloneR.f at h
  by_cases hl : l0.length ≤ 1000000
  · rw [if_pos hl] at h
    obtain rfl := Option.some.inj h
    have q22 : ∀ (w : World) (a : Option Addr) (n c n' c' : Nat), (binOp .eql 22 (.slice a n c) (.slice none n' c')).run Try.prog w = .ok (.bool a.isNone) w := fun w a n c n' c' => Lib.run_eql_slice_nil w _ _ a n c n' c' Try.underlying22
    cases A0 with
    | none =>
      have h0 : l0 = [] := by
        cases l0 with
        | nil => rfl
        | cons x r =>
          obtain ⟨ad, hA, _⟩ := hr0.2.2 (by simp)
          cases hA
      subst h0
      clear hr0 hc0 hl h
      go_enter Try.func22, Try.ntmps22
      go_wp2
      go_ret
      exact ⟨_, rfl, Kd.R_nil _ _ _ _ _, Below.refl _ _⟩
    | some ad =>
      have hr1 : Aside0 (Kd.C k28 w (some ad) l0.length l0) := Aside0.mk hr0
      have hl1 : Aside0 (l0.length ≤ 1000000) := Aside0.mk hl
      have HO : Aside0 (Kd.R k28 28 (w.alloc (.cells #[] 28)) w.heap.size (fun _ => True) (.slice (some ⟨w.heap.size, 0, none⟩) 0 0) ([] : List S28)) := Aside0.mk ⟨fun _ _ => trivial, [], World.ownsRow_made w #[] 0 (Nat.le_refl _) (Nat.zero_le _) (by simp), Reps.none _ _⟩
      clear hr0 hl hc0 h
      go_enter Try.func22, Try.ntmps22
      go_wp2_with ((with_reducible refine gate_builtin (b := .append) (xs := #[.tmp 5, .tmp 6]) rfl ?_); at_builtin; refine Kd.R_append_rows k28 (Rr := k28.K w) (w0 := w) w.heap.size rfl (.tmp 5) (.tmp 6) 22 28 (.agg #[(.int .u32 0), (.int .u32 0), (.int .u32 0), (.int .u32 0)]) 16 rfl Try.underlying22 info28 rfl (by decide) (by omega) (.slice (some ⟨w.heap.size, 0, none⟩) 0 0) [] l0 (some ad) l0.length c0 (fun _ => True) (fun _ => False) rfl rfl HO.out ?hR ?hM (fun _ hk => hk.elim) (fun _ _ => trivial) ?hB ?hS ?hL ?_)
      case hR => exact ReadsRow.imp_ hr1.out (below_alloc (Below.refl _ _) _) (fun _ _ h => h)
      case hM => exact fun x cs hx => by rw [k28_open hx]; exact k28_mkM _ _ _ x
      case hB => exact below_alloc (Below.refl _ _) _
      case hS => exact below_size (below_alloc (Below.refl _ _) _)
      case hL => have := hl1.out; simp only [List.length_nil]; omega
      intro v1 w1 ho hb hg hat
      clear q22 HO hr1 hl1
      have HO2 := Aside0.mk ho
      have HB2 := Aside0.mk hb
      clear ho hb hg hat
      go_wp2
      go_ret
      exact ⟨_, rfl, by simpa using HO2.out, HB2.out⟩
  · rw [if_neg hl] at h
    simp at h

end Go.Proofs.Ytjehhfhkbboamaa.P
