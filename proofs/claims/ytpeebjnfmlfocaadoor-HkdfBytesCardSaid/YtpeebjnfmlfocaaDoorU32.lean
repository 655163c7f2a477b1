/- Numbers of 32 and 64 bits as the walk spells them, told as UInt32, UInt64. Plain facts, no condition. -/
import Derived.Laws.BitsAllLaws
import Derived.WalkArith
namespace Go.UW
open Go

theorem u32_wrap (n : Int) : IntKind.u32.wrap n = n % 4294967296 := by rw [IntKind.wrap_u32]
theorem u64_wrap (n : Int) : IntKind.u64.wrap n = n % 18446744073709551616 := by rw [IntKind.wrap_u64]

/-- a number of 32 bits as the walk holds it; a plain name, so that no rule looks into it -/
def v32 (x : UInt32) : Int := (x.toNat : Int)
theorem v32_nn (a : UInt32) : 0 ≤ v32 a := Int.natCast_nonneg _
theorem lt32 (a : UInt32) : v32 a < 4294967296 := by have := a.toNat_lt; unfold v32; omega
theorem bits_xor32 (a b : UInt32) : bits .xor .u32 (v32 a) (v32 b) = v32 (a ^^^ b) := by
  rw [u32_xor _ _ (v32_nn a) (lt32 a) (v32_nn b) (lt32 b)]; rfl
theorem bits_and32 (a b : UInt32) : bits .and .u32 (v32 a) (v32 b) = v32 (a &&& b) := by
  rw [u32_and _ _ (v32_nn a) (lt32 a) (v32_nn b) (lt32 b)]; rfl
theorem bits_or32 (a b : UInt32) : bits .or .u32 (v32 a) (v32 b) = v32 (a ||| b) := by
  rw [u32_or _ _ (v32_nn a) (lt32 a) (v32_nn b) (lt32 b)]; rfl
theorem add32 (a b : UInt32) : IntKind.u32.wrap (v32 a + v32 b) = v32 (a + b) := by
  unfold v32
  rw [u32_wrap, UInt32.toNat_add]
  omega
theorem not32 (a : UInt32) : 4294967295 - v32 a = v32 (~~~ a) := by
  unfold v32
  rw [UInt32.toNat_not]
  have := a.toNat_lt
  show (4294967295 : Int) - _ = ((4294967296 - 1 - a.toNat : Nat) : Int)
  omega
theorem shl32 (a : UInt32) (n : Nat) (h : n < 32) : IntKind.u32.wrap (v32 a * 2 ^ n) = v32 (a <<< UInt32.ofNat n) := by
  unfold v32
  rw [u32_wrap, UInt32.toNat_shiftLeft, Nat.shiftLeft_eq]
  have : (UInt32.ofNat n).toNat % 32 = n := by rw [UInt32.toNat_ofNat_of_lt' (by show n < 4294967296; omega)]; omega
  rw [this]
  rw [Int.natCast_emod, Int.natCast_mul, Int.natCast_pow]
  rfl
theorem shr32 (a : UInt32) (n : Nat) (h : n < 32) : v32 a / 2 ^ n = v32 (a >>> UInt32.ofNat n) := by
  unfold v32
  rw [UInt32.toNat_shiftRight, Nat.shiftRight_eq_div_pow]
  have : (UInt32.ofNat n).toNat % 32 = n := by rw [UInt32.toNat_ofNat_of_lt' (by show n < 4294967296; omega)]; omega
  rw [this]
  rw [Int.natCast_ediv, Int.natCast_pow]
  rfl
end Go.UW
