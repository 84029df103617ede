/- The walks of croftlaw15.PoolNobody: what the pool's functions do at a pool that nobody made, and at one that the law makes itself. -/
import Derived.Test.YtpjdmgdljbmcpaaProg
import Derived.Conc.LoneCalls
import Derived.Conc.LoneSelectN
import Derived.KernelRfl
import Derived.Laws.Rows
import Derived.WalkKit
import Derived.ProofKit
import Derived.Deep.QuietTactic
import Derived.BigQuiet
import Derived.Lib.SliceRun
import Derived.WalkSpells
import Derived.Lib.Hide
import Derived.Deep.LoopGhost
namespace Go.Proofs.Ytpjdmgdljbmcpaa.W
open Go.Conc Go.RowKit Go.Proofs
theorem is_none (w : World) : Calls Try.prog 10 #[.pointer none] w fun e w' => e = .returned (.bool false) ∧ w' = w := by
  go_enter Try.func10, Try.ntmps10
  go_wp2
  go_ret
  exact ⟨rfl, rfl⟩
theorem cell0 {w : World} {b : Nat} {v : Value} (h : w.heap[b]? = some (.cells #[v] 25 (0, 0))) : w.cell? ⟨b, 0, none⟩ = some v := by
  simp [World.cell?, h]
theorem ne_none : ∀ w, (binOp .neq 23 (.chan none) (.chan none)).run Try.prog w = .ok (.bool false) w := fun w => by kernel_rfl
theorem ne_some (c : Nat) : ∀ w, (binOp .neq 23 (.chan (some c)) (.chan none)).run Try.prog w = .ok (.bool true) w := fun w => by kernel_rfl
theorem is_zero (b : Nat) (w : World) (h : w.heap[b]? = some (.cells #[.chan none] 25 (0, 0))) : Calls Try.prog 10 #[.pointer (some ⟨b, 0, none⟩)] w fun e w' => e = .returned (.bool false) ∧ w' = w := by
  have hc := cell0 h
  have hn := ne_none
  clear h
  go_enter Try.func10, Try.ntmps10
  go_wp2
  go_ret
  exact ⟨rfl, rfl⟩
theorem is_made (b c : Nat) (w : World) (h : w.heap[b]? = some (.cells #[.chan (some c)] 25 (0, 0))) : Calls Try.prog 10 #[.pointer (some ⟨b, 0, none⟩)] w fun e w' => e = .returned (.bool true) ∧ w' = w := by
  have hc := cell0 h
  have hn := ne_some c
  clear h
  go_enter Try.func10, Try.ntmps10
  go_wp2
  go_ret
  exact ⟨rfl, rfl⟩
/-- A pool that nobody made. -/
def Nob (v : Value) (w : World) : Prop := v = .pointer none ∨ ∃ b, v = .pointer (some ⟨b, 0, none⟩) ∧ w.heap[b]? = some (.cells #[.chan none] 25 (0, 0))
theorem is_nob (v : Value) (w : World) (h : Nob v w) : Calls Try.prog 10 #[v] w fun e w' => e = .returned (.bool false) ∧ w' = w := by
  rcases h with rfl | ⟨b, rfl, h⟩
  · exact is_none w
  · exact is_zero b w h
theorem take_nob (v : Value) (w : World) (h : Nob v w) : Calls Try.prog 4 #[v] w fun e w' => e = .returned (.tuple #[.int .i64 0, .bool false]) ∧ w' = w := by
  have hi := is_nob v w h
  clear h
  go_enter Try.func4, Try.ntmps4
  go_wp2_with (go_at_call 10; refine hi.mono ?_; rintro e w' ⟨rfl, rfl⟩)
  go_ret2
  exact ⟨rfl, rfl⟩
theorem put_nob (v : Value) (n : Int) (w : World) (h : Nob v w) : Calls Try.prog 5 #[v, .int .i64 n] w fun e w' => e = .returned (.bool false) ∧ w' = w := by
  have hi := is_nob v w h
  clear h
  go_enter Try.func5, Try.ntmps5
  go_wp2_with (go_at_call 10; refine hi.mono ?_; rintro e w' ⟨rfl, rfl⟩)
  go_ret
  exact ⟨rfl, rfl⟩
theorem len_nob (v : Value) (w : World) (h : Nob v w) : Calls Try.prog 6 #[v] w fun e w' => e = .returned (.int .i64 0) ∧ w' = w := by
  have hi := is_nob v w h
  clear h
  go_enter Try.func6, Try.ntmps6
  go_wp2_with (go_at_call 10; refine hi.mono ?_; rintro e w' ⟨rfl, rfl⟩)
  go_ret
  exact ⟨rfl, rfl⟩
theorem clone_nob (v : Value) (w : World) (h : Nob v w) : Calls Try.prog 8 #[v] w fun e w' => e = .returned (.pointer none) ∧ w' = w := by
  have hi := is_nob v w h
  clear h
  go_enter Try.func8, Try.ntmps8
  go_wp2_with (go_at_call 10; refine hi.mono ?_; rintro e w' ⟨rfl, rfl⟩)
  go_ret
  exact ⟨rfl, rfl⟩
theorem all_nob (v : Value) (w : World) (h : Nob v w) : Calls Try.prog 7 #[v] w fun e w' => e = .returned (.slice none 0 0) ∧ w' = w := by
  have hi := is_nob v w h
  clear h
  go_enter Try.func7, Try.ntmps7
  go_wp2
  go_step3
  go_wp2
  go_step3
  go_wp2
  refine wp_loop_rounds 1 ?_
  rw [rounds_succ]
  go_wp2_with (go_at_call 10; refine hi.mono ?_; rintro e w' ⟨rfl, rfl⟩)
  refine wp_loop_rounds 1 ?_
  rw [rounds_succ]
  go_wp2
  rw [Exit.noGoto_ret]
  go_ret
  exact ⟨rfl, rfl⟩
theorem res_s0 (a : Nat) (u z : Value) : commResult #[scase a u z] .select ((0 : Nat) : Int) undef false = .tuple #[goInt 0, .bool false] := by
  simp [commResult, scase, List.zipIdx_cons]
theorem res_r0 (a : Nat) (z v : Value) (ok : Bool) : commResult #[rcase a z] .select ((0 : Nat) : Int) v ok = .tuple #[goInt 0, .bool ok, v] := by
  simp [commResult, rcase, List.zipIdx_cons]
set_option maxRecDepth 100000 in
theorem put_made (b c : Nat) (n : Int) (buf : Array Value) (s r : Nat) (w : World) (h : w.heap[b]? = some (.cells #[.chan (some c)] 25 (0, 0))) (hch : w.heap[c]? = some (.chan 32 buf false s r false)) (hb : buf.size < 32) :
    Calls Try.prog 5 #[.pointer (some ⟨b, 0, none⟩), .int .i64 n] w fun e w' => e = .returned (.bool true) ∧ w' = w.setChan c 32 (buf.push (.int .i64 n)) false (s + 1) r false := by
  refine calls_of_loneTo fun cs => ?_
  have e : Frame.enter Try.prog 5 #[.pointer (some ⟨b, 0, none⟩), .int .i64 n] .normal = (base 5).at ⟨#[.pointer (some ⟨b, 0, none⟩), .int .i64 n, undef, undef, undef, undef, undef, undef, undef, undef, undef, undef, undef, undef, undef, undef], []⟩ [.code (Try.f5.body.getD .skip)] := by
    simp [Frame.enter, Frame.at, Try.func5, base, Try.f5]
  rw [e]
  have hcell := cell0 h
  have hne := ne_some c
  refine LoneTo.goes (n := 80) ?_
  simp only [Try.f5, Option.getD_some]
  s_c stepG_seq
  s_reg
  s_op
  s_c stepG_region_end
  s_c stepG_seq
  s_c stepG_seq
  s_reg
  s_op
  s_call Try.func10 (by kernel_rfl) Try.f10
  s_c stepG_seq
  s_reg
  s_op
  s_c stepG_region_end
  s_c stepG_seq
  s_reg
  s_op
  s_op
  s_op
  s_op
  s_op
  s_op
  s_op
  s_op
  s_op
  s_op
  s_c stepG_region_end
  s_c stepG_ret'
  s_leave1 Try.func10
  s_op
  s_c stepG_region_end
  s_cond false
  s_c stepG_skip
  s_c stepG_seq
  s_c stepG_seq
  s_reg
  s_op
  s_op
  s_op
  s_op
  s_c stepG_region_end
  s_reg
  s_op
  s_c stepG_region_end
  s_c stepG_seq
  s_reg
  s_stop
  refine LoneTo.step (step_lone_sel_send_room (k := 0) (c := c) (v := .int .i64 n) (z := .int .i64 0) (cap := 32) (buf := buf) (s := s) (r := r) (tm := false)
    (stepG_comm (cases := #[scase c (.int .i64 n) (.int .i64 0)]) (blocking := false) (shape := .select) (w' := w) rfl rfl (by decide) (by simp [go_sem, execOp, scase, Act.eval]))
    rfl (fun m c' hm hc' => ?_) hch hb) ?_
  · rcases m with _ | m
    · exact absurd rfl hm
    · simp at hc'
  rw [Frame.finish_at, res_s0]
  walk_nrm
  refine LoneTo.goes (n := 40) ?_
  s_op
  s_op
  s_c stepG_region_end
  s_c stepG_block
  s_cond true
  s_c stepG_seq
  s_reg
  s_op
  s_c stepG_region_end
  s_c stepG_ret'
  s_stop
  refine LoneTo.done ⟨.returned (.bool true), _, rfl, ⟨rfl, rfl⟩, rfl, rfl, rfl, rfl, _, Try.func5, by simp [results, Try.f5, Frame.at]⟩
set_option maxRecDepth 100000 in
theorem take_made (b c : Nat) (n m : Int) (s r : Nat) (w : World) (h : w.heap[b]? = some (.cells #[.chan (some c)] 25 (0, 0))) (hch : w.heap[c]? = some (.chan 32 #[.int .i64 n, .int .i64 m] false s r false)) :
    Calls Try.prog 4 #[.pointer (some ⟨b, 0, none⟩)] w fun e w' => e = .returned (.tuple #[.int .i64 n, .bool true]) ∧ w' = w.setChan c 32 #[.int .i64 m] false s (r + 1) false := by
  refine calls_of_loneTo fun cs => ?_
  have e : Frame.enter Try.prog 4 #[.pointer (some ⟨b, 0, none⟩)] .normal = (base 4).at ⟨#[.pointer (some ⟨b, 0, none⟩), undef, undef, undef, undef, undef, undef, undef, undef, undef, undef, undef, undef, undef, undef, undef, undef], []⟩ [.code (Try.f4.body.getD .skip)] := by
    simp [Frame.enter, Frame.at, Try.func4, base, Try.f4]
  rw [e]
  have hcell := cell0 h
  have hne := ne_some c
  refine LoneTo.goes (n := 80) ?_
  simp only [Try.f4, Option.getD_some]
  s_c stepG_seq
  s_reg
  s_op
  s_op
  s_c stepG_region_end
  s_c stepG_seq
  s_c stepG_seq
  s_reg
  s_op
  s_call Try.func10 (by kernel_rfl) Try.f10
  s_c stepG_seq
  s_reg
  s_op
  s_c stepG_region_end
  s_c stepG_seq
  s_reg
  s_op
  s_op
  s_op
  s_op
  s_op
  s_op
  s_op
  s_op
  s_op
  s_op
  s_c stepG_region_end
  s_c stepG_ret'
  s_leave1 Try.func10
  s_op
  s_c stepG_region_end
  s_cond false
  s_c stepG_skip
  s_c stepG_seq
  s_reg
  s_op
  s_op
  s_op
  s_op
  s_c stepG_region_end
  s_c stepG_seq
  s_reg
  s_stop
  refine LoneTo.step (step_lone_sel_recv_buf (k := 0) (c := c) (z := .int .i64 0) (cap := 32) (buf := #[.int .i64 n, .int .i64 m]) (closed := false) (s := s) (r := r) (tm := false)
    (stepG_comm (cases := #[rcase c (.int .i64 0)]) (blocking := false) (shape := .select) (w' := w) rfl rfl (by decide) (by simp [go_sem, execOp, rcase, Act.eval]))
    rfl (fun q c' hm hc' => ?_) hch (by simp)) ?_
  · rcases q with _ | q
    · exact absurd rfl hm
    · simp at hc'
  have hx : (#[Value.int .i64 n, .int .i64 m]).extract 1 (#[Value.int .i64 n, .int .i64 m]).size = #[.int .i64 m] := rfl
  have hv : (#[Value.int .i64 n, .int .i64 m]).getD 0 undef = .int .i64 n := rfl
  rw [Frame.finish_at, hx, hv, res_r0]
  walk_nrm
  refine LoneTo.goes (n := 40) ?_
  s_op
  s_op
  s_c stepG_region_end
  s_c stepG_block
  s_cond true
  s_c stepG_seq
  s_reg
  s_op
  s_op
  s_c stepG_region_end
  s_c stepG_seq
  s_reg
  s_op
  s_op
  s_op
  s_c stepG_region_end
  s_c stepG_ret'
  s_stop
  refine LoneTo.done ⟨.returned (.tuple #[.int .i64 n, .bool true]), _, rfl, ⟨rfl, rfl⟩, rfl, rfl, rfl, rfl, _, Try.func4, by simp [results, Try.f4, Frame.at]⟩
theorem len_made (b c : Nat) (buf : Array Value) (s r : Nat) (w : World) (h : w.heap[b]? = some (.cells #[.chan (some c)] 25 (0, 0))) (hch : w.heap[c]? = some (.chan 32 buf false s r false)) :
    Calls Try.prog 6 #[.pointer (some ⟨b, 0, none⟩)] w fun e w' => e = .returned (.int .i64 (buf.size : Int)) ∧ w' = w := by
  have hi := is_made b c w h
  have hc := cell0 h
  have hlen := fun ty => run_len_chan (P := Try.prog) 23 ty Try.underlying23 hch
  clear h hch
  go_enter Try.func6, Try.ntmps6
  go_wp2_with (go_at_call 10; refine hi.mono ?_; rintro e w' ⟨rfl, rfl⟩)
  go_ret
  exact ⟨rfl, rfl⟩
theorem bytes3 : ∃ i, Try.prog.info? 3 = some i ∧ i.bytes = 8 := by
  have h : (Try.prog.info? 3).map (·.bytes) = some 8 := by kernel_rfl
  obtain ⟨i, hi, hb⟩ := Option.map_eq_some_iff.1 h
  exact ⟨i, hi, hb⟩
theorem mk32 (w : World) : (Instr.makeChan 23 (.int .i64 32)).run Try.prog w = .ok (.chan (some w.heap.size)) (w.alloc (.chan 32 #[] false 0 0 false)) := by
  obtain ⟨i, hi, hb⟩ := bytes3
  simpa using run_makeChan (P := Try.prog) (w := w) Try.underlying23 hi .i64 32 (by omega) (by rw [hb]; omega)
/-- A pool with two numbers, made anew. -/
def Made (w w' : World) (b c : Nat) (buf : Array Value) (s r : Nat) : Prop := Below w.heap.size w w' ∧ w.heap.size ≤ b ∧ w.heap.size ≤ c ∧ b ≠ c ∧ w'.heap[b]? = some (.cells #[.chan (some c)] 25 (0, 0)) ∧ w'.heap[c]? = some (.chan 32 buf false s r false)
theorem Made.set {w w' : World} {b c : Nat} {buf buf' : Array Value} {s r s' r' : Nat} (h : Made w w' b c buf s r) : Made w (w'.setChan c 32 buf' false s' r' false) b c buf' s' r' := by
  obtain ⟨h1, h2, h3, h4, h5, h6⟩ := h
  refine ⟨below_setChan h1 h3 _ _ _ _ _ _, h2, h3, h4, ?_, heap_setChan _ _ _ _ _ _ _ _ (Array.getElem?_eq_some_iff.1 h6).1⟩
  rw [← h5]
  simp [World.setChan, Array.getElem?_setIfInBounds_ne (Ne.symm h4)]
set_option maxRecDepth 100000 in
theorem new_two (x y : Int) (a : Nat) (w : World) (hx : w.cell? ⟨a, 0, none⟩ = some (.int .i64 x)) (hy : w.cell? ⟨a, 1, none⟩ = some (.int .i64 y)) :
    Calls Try.prog 11 #[.slice (some ⟨a, 0, none⟩) 2 2] w fun e w' => ∃ b c, e = .returned (.pointer (some ⟨b, 0, none⟩)) ∧ Made w w' b c #[.int .i64 x, .int .i64 y] 2 0 := by
  have hmc := mk32
  have M0 : Hid (Made w ((w.alloc (.chan 32 #[] false 0 0 false)).alloc (.cells #[.chan (some w.heap.size)] 25)) (w.heap.size + 1) w.heap.size #[] 0 0) := by
    have h1 := heap_alloc_new w (.chan 32 #[] false 0 0 false)
    have h2 := heap_alloc_new (w.alloc (.chan 32 #[] false 0 0 false)) (.cells #[.chan (some w.heap.size)] 25)
    have h0 : Below w.heap.size w (w.alloc (.chan 32 #[] false 0 0 false)) := (Below.refl _ _).alloc (Nat.le_refl _) _
    refine ⟨h0.alloc (by simp) _, by omega, Nat.le_refl _, by omega, by simpa only [World.size_alloc] using h2, ?_⟩
    rw [Below.heap_alloc _ _ _ (by simp)]
    exact h1
  have HX := Lib.hid (And.intro hx hy)
  have hlt := World.block_lt_of_cell? w _ hx
  clear hx hy
  go_enter Try.func11, Try.ntmps11
  go_wp2
  clear hmc
  generalize (w.alloc (.chan 32 #[] false 0 0 false)).alloc (.cells #[.chan (some w.heap.size)] 25) = W at M0 ⊢
  have hcell : ∀ v i, w.cell? ⟨a, i, none⟩ = some v → W.cell? ⟨a, i, none⟩ = some v := fun v i h => (M0.out.1.cell (p := ⟨a, i, none⟩) hlt).trans h
  have c0 := hcell _ _ HX.out.1
  have HC1 := Lib.hid (hcell _ _ HX.out.2)
  clear hcell
  have p0 := Lib.hid (put_made (w.heap.size + 1) w.heap.size x #[] 0 0 W M0.out.2.2.2.2.1 M0.out.2.2.2.2.2 (by decide))
  refine wp_loop_rounds 3 ?_
  rw [rounds_succ]
  go_wp2_with (go_at_call 5; refine p0.out.mono ?_; rintro e w' ⟨rfl, rfl⟩)
  rw [rounds_succ]
  clear p0 c0
  have M1 := Lib.hid (Made.set (buf' := #[.int .i64 x]) (s' := 1) (r' := 0) M0.out)
  have c1 : (W.setChan w.heap.size 32 #[.int .i64 x] false 1 0 false).cell? ⟨a, 1, none⟩ = some (.int .i64 y) := (M1.out.1.cell (p := ⟨a, 1, none⟩) hlt).trans HX.out.2
  have p1 := Lib.hid (put_made (w.heap.size + 1) w.heap.size y #[.int .i64 x] 1 0 _ M1.out.2.2.2.2.1 M1.out.2.2.2.2.2 (by simp))
  generalize W.setChan w.heap.size 32 #[.int .i64 x] false 1 0 false = W2 at M1 c1 p1 ⊢
  clear M0 HC1
  go_wp2_with (go_at_call 5; refine p1.out.mono ?_; rintro e w' ⟨rfl, rfl⟩)
  rw [rounds_succ]
  clear p1 c1
  have M2 := Lib.hid (Made.set (buf' := #[.int .i64 x, .int .i64 y]) (s' := 2) (r' := 0) M1.out)
  generalize W2.setChan w.heap.size 32 #[.int .i64 x, .int .i64 y] false 2 0 false = W3 at M2 ⊢
  clear M1
  go_wp2
  go_ret
  exact ⟨_, _, rfl, M2.out⟩
set_option maxRecDepth 100000 in
theorem alive_walk (w : World) : Calls Try.prog 9 #[] w fun e w' => e = .returned (.bool true) ∧ Below w.heap.size w w' := by
  have hb0 : Hid (Below w.heap.size w (w.alloc (.cells #[.int .i64 4, .int .i64 5] 3))) := (Below.refl _ _).alloc (Nat.le_refl _) _
  have hn := Lib.hid (new_two 4 5 w.heap.size (w.alloc (.cells #[.int .i64 4, .int .i64 5] 3)) (by go_simp) (by go_simp))
  go_enter Try.func9, Try.ntmps9
  go_wp2_with (go_at_call 11; refine hn.out.mono ?_; rintro e w' ⟨b, c, rfl, hm⟩; have M0 := Lib.hid hm; have ht := Lib.hid (take_made b c 4 5 2 0 w' hm.2.2.2.2.1 hm.2.2.2.2.2); clear hm)
  clear hn
  go_wp2_with (go_at_call 4; refine ht.out.mono ?_; rintro e w' ⟨rfl, rfl⟩)
  clear ht
  have M1 := Lib.hid (Made.set (buf' := #[.int .i64 5]) (s' := 2) (r' := 1) M0.out)
  have hl := Lib.hid (len_made b c #[.int .i64 5] 2 1 _ M1.out.2.2.2.2.1 M1.out.2.2.2.2.2)
  generalize w'.setChan c 32 #[.int .i64 5] false 2 1 false = W2 at M1 hl ⊢
  clear M0
  go_wp2_with (go_at_call 6; refine hl.out.mono ?_; rintro e w' ⟨rfl, rfl⟩)
  go_ret
  exact ⟨rfl, hb0.out.trans (M1.out.1.mono (by simp))⟩
set_option maxRecDepth 100000 in
theorem law_walk (n : Int) (w : World) : Calls Try.prog 3 #[.int .i64 n] w fun e w' => e = .returned (.bool true) ∧ Below w.heap.size w w' := by
  have hb0 : Hid (Below w.heap.size w ((w.alloc (.cells #[.chan none] 25)).alloc (.cells #[.pointer none, .pointer (some ⟨w.heap.size, 0, none⟩)] 22))) := ((Below.refl _ _).alloc (Nat.le_refl _) _).alloc (by simp) _
  have N0 : Hid (∀ k, Nob (.pointer (some ⟨w.heap.size, 0, none⟩)) (((w.alloc (.cells #[.chan none] 25)).alloc (.cells #[.pointer none, .pointer (some ⟨w.heap.size, 0, none⟩)] 22)).drewN k)) := by
    intro k
    refine Or.inr ⟨_, rfl, ?_⟩
    have h1 := heap_alloc_new w (.cells #[.chan none] 25)
    rw [World.heap_drewN, Below.heap_alloc _ _ _ (by simp)]
    exact h1
  go_enter Try.func3, Try.ntmps3
  go_wp2
  have C0 : ((w.alloc (.cells #[.chan none] 25)).alloc (.cells #[.pointer none, .pointer (some ⟨w.heap.size, 0, none⟩)] 22)).cell? ⟨w.heap.size + 1, 0, none⟩ = some (.pointer none) := by go_simp
  have C1 : ((w.alloc (.cells #[.chan none] 25)).alloc (.cells #[.pointer none, .pointer (some ⟨w.heap.size, 0, none⟩)] 22)).cell? ⟨w.heap.size + 1, 1, none⟩ = some (.pointer (some ⟨w.heap.size, 0, none⟩)) := by go_simp
  generalize (w.alloc (.cells #[.chan none] 25)).alloc (.cells #[.pointer none, .pointer (some ⟨w.heap.size, 0, none⟩)] 22) = W at hb0 N0 C0 C1 ⊢
  have Z0 : Hid (∀ k, Nob (.pointer none) (W.drewN k)) := fun k => Or.inl rfl
  refine wp_loop_rounds 3 ?_
  rw [rounds_succ]
  go_wp2_with (go_at_call 4; refine (take_nob _ _ (Z0.out 0)).mono ?_; rintro e w' ⟨rfl, rfl⟩)
  go_quiet (first
    | (go_at_call 5; exact Calls.quiet_of_same (put_nob _ _ _ (Z0.out _)))
    | (go_at_call 6; exact Calls.quiet_of_same (len_nob _ _ (Z0.out _)))
    | (go_at_call 7; exact Calls.quiet_of_same (all_nob _ _ (Z0.out _)))
    | (go_at_call 8; exact Calls.quiet_of_same (clone_nob _ _ (Z0.out _))))
  go_wp2
  rw [rounds_succ]
  have C1' : (W.drewN nq).cell? ⟨w.heap.size + 1, 1, none⟩ = some (.pointer (some ⟨w.heap.size, 0, none⟩)) := C1
  have N0' : Hid (∀ k, Nob (.pointer (some ⟨w.heap.size, 0, none⟩)) ((W.drewN nq).drewN k)) := by
    intro k
    rw [World.drewN_drewN]
    exact N0.out _
  have hb1 := Lib.hid (hb0.out.trans ⟨rfl, rfl, rfl, Nat.le_refl _, fun _ _ => rfl⟩ : Below w.heap.size w (W.drewN nq))
  generalize W.drewN nq = W2 at C1' N0' hb1 ⊢
  clear C0 C1 N0 hb0 Z0
  go_wp2_with (go_at_call 4; refine (take_nob _ _ (N0'.out 0)).mono ?_; rintro e w' ⟨rfl, rfl⟩)
  go_quiet (first
    | (go_at_call 5; exact Calls.quiet_of_same (put_nob _ _ _ (N0'.out _)))
    | (go_at_call 6; exact Calls.quiet_of_same (len_nob _ _ (N0'.out _)))
    | (go_at_call 7; exact Calls.quiet_of_same (all_nob _ _ (N0'.out _)))
    | (go_at_call 8; exact Calls.quiet_of_same (clone_nob _ _ (N0'.out _))))
  go_wp2
  rw [rounds_succ]
  have hb2 := Lib.hid (hb1.out.trans ⟨rfl, rfl, rfl, Nat.le_refl _, fun _ _ => rfl⟩ : Below w.heap.size w (W2.drewN nq))
  generalize W2.drewN nq = W3 at hb2 ⊢
  clear C1' N0' hb1
  go_wp2_with (go_at_call 9; refine (alive_walk _).mono ?_; rintro e w' ⟨rfl, hw⟩)
  go_ret
  exact ⟨rfl, hb2.out.trans (hw.mono hb2.out.size)⟩
end Go.Proofs.Ytpjdmgdljbmcpaa.W
