/- What bits.Add64 computes, for the printed walks: the sum and the carry, as the model's entry has them. -/
import Derived.Test.YtjehhfhkbboamaaProg
import Derived.Laws.Externs
import Derived.KernelRfl
import Derived.WalkKit
namespace Go.Proofs.Ytjehhfhkbboamaa.P
open Go.Proofs
def addLo (x y c : Int) : Int := (((x.toNat + y.toNat + c.toNat) % 18446744073709551616 : Nat) : Int)
def addHi (x y c : Int) : Int := (((x.toNat + y.toNat + c.toNat) / 18446744073709551616 : Nat) : Int)
def carryOk (c : Int) : Bool := decide (c.toNat ≤ 1)
theorem carryOk_zero : carryOk 0 = true := by
  unfold carryOk
  exact decide_eq_true (by decide)
theorem add64_entry {P : Program} (x y c : Int) (hc : carryOk c = true) (w : World) :
    (add64Entry #[.int .u64 x, .int .u64 y, .int .u64 c]).run P w = .ok (.tuple #[.int .u64 (addLo x y c), .int .u64 (addHi x y c)]) w := by
  have hk : c.toNat ≤ 1 := by unfold carryOk at hc; exact of_decide_eq_true hc
  have h1 : (add64Entry #[.int .u64 x, .int .u64 y, .int .u64 c]).run P w = (add64Entry #[.int .u64 x, .int .u64 y, .int .u64 (c.toNat : Int)]).run P w := by
    rcases c with n | n
    · rfl
    · rfl
  rw [h1]
  have : c.toNat = 0 ∨ c.toNat = 1 := by omega
  unfold addLo addHi
  rcases this with e | e <;> rw [e] <;> rfl
theorem add64_run (x y c : Int) (hc : carryOk c = true) (w : World) :
    (callFunc (18 : Nat) #[.int .u64 x, .int .u64 y, .int .u64 c]).run Try.prog w =
      .ok (.value (.tuple #[.int .u64 (addLo x y c), .int .u64 (addHi x y c)])) w := by
  rw [run_callFunc_extern (Try.func18) (by kernel_rfl) (by kernel_rfl) (by kernel_rfl) (e := add64Entry) (by kernel_rfl), add64_entry x y c hc]
  rfl
end Go.Proofs.Ytjehhfhkbboamaa.P
