/- Words of 32 bits, bytes and words of 64 bits, as the model has them. -/
import Derived.Test.YtofdjlngohhlmaaDoorLib2
import Derived.Laws.BitsAllLaws
import Derived.Laws.ShiftsVarLaws
import Derived.Laws.Shifts
namespace Go.Proofs.YtofdjlngohhlmaaDoor
open Go.RowKit

/-- a word of 32 bits -/
def wrd (x : BitVec 32) : Value := .int .u32 (x.toNat : Int)
theorem u32_lt (x : BitVec 32) : (x.toNat : Int) < 4294967296 := by have := x.isLt; omega

theorem u32_xor' (x y : BitVec 32) : bits .xor .u32 (x.toNat : Int) (y.toNat : Int) = ((x ^^^ y).toNat : Int) := by
  rw [u32_xor_nat _ _ x.isLt y.isLt, BitVec.toNat_xor]
theorem u32_or' (x y : BitVec 32) : bits .or .u32 (x.toNat : Int) (y.toNat : Int) = ((x ||| y).toNat : Int) := by
  rw [u32_or_nat _ _ x.isLt y.isLt, BitVec.toNat_or]
theorem u32_and' (x y : BitVec 32) : bits .and .u32 (x.toNat : Int) (y.toNat : Int) = ((x &&& y).toNat : Int) := by
  rw [u32_and_nat _ _ x.isLt y.isLt, BitVec.toNat_and]
theorem u32_add' (x y : BitVec 32) : IntKind.u32.wrap ((x.toNat : Int) + (y.toNat : Int)) = ((x + y).toNat : Int) := by
  rw [IntKind.wrap_u32, BitVec.toNat_add, Int.natCast_emod, Int.natCast_add]; rfl
theorem u32_wrap' (x : BitVec 32) : IntKind.u32.wrap (x.toNat : Int) = (x.toNat : Int) := by
  have := x.isLt
  rw [IntKind.wrap_u32]; omega
theorem u32_not' (x : BitVec 32) : bits .xor .u32 4294967295 (x.toNat : Int) = ((~~~x).toNat : Int) := by
  have h := u32_xor' (BitVec.allOnes 32) x
  rw [show (~~~x) = BitVec.allOnes 32 ^^^ x by rw [BitVec.allOnes_xor]]
  rw [← h]; rfl

theorem u32_shl' (x : BitVec 32) (j : Nat) : (x.toNat : Int) * 2 ^ j % 4294967296 = ((x <<< j).toNat : Int) := by
  rw [BitVec.toNat_shiftLeft, Nat.shiftLeft_eq, Int.natCast_emod, Int.natCast_mul, Int.natCast_pow]
  rfl
theorem u32_shr' (x : BitVec 32) (j : Nat) : (x.toNat : Int) / 2 ^ j = ((x >>> j).toNat : Int) := by
  rw [BitVec.toNat_ushiftRight, Nat.shiftRight_eq_div_pow, Int.natCast_ediv, Int.natCast_pow]
  rfl
theorem u32_shr3 (x : BitVec 32) : (x.toNat : Int) / (8 : Int) = ((x >>> 3).toNat : Int) := u32_shr' x 3
theorem u32_shr10 (x : BitVec 32) : (x.toNat : Int) / (1024 : Int) = ((x >>> 10).toNat : Int) := u32_shr' x 10
theorem u32_shl8 (x : BitVec 32) : (x.toNat : Int) * (256 : Int) % (4294967296 : Int) = ((x <<< 8).toNat : Int) := u32_shl' x 8
theorem u32_shl16 (x : BitVec 32) : (x.toNat : Int) * (65536 : Int) % (4294967296 : Int) = ((x <<< 16).toNat : Int) := u32_shl' x 16
theorem u32_shl24 (x : BitVec 32) : (x.toNat : Int) * (16777216 : Int) % (4294967296 : Int) = ((x <<< 24).toNat : Int) := u32_shl' x 24
theorem u32_add (x y : BitVec 32) : ((x.toNat : Int) + (y.toNat : Int)) % (4294967296 : Int) = ((x + y).toNat : Int) := by
  rw [BitVec.toNat_add, Int.natCast_emod, Int.natCast_add]; rfl
/-- a byte as a word -/
def wide (b : UInt8) : BitVec 32 := BitVec.ofNat 32 b.toNat
theorem wide_toNat (b : UInt8) : (wide b).toNat = b.toNat := by
  have := b.toNat_lt
  simp only [wide, BitVec.toNat_ofNat]
  omega
theorem byte_wide (b : UInt8) : (b.toNat : Int) = ((wide b).toNat : Int) := by rw [wide_toNat]

end Go.Proofs.YtofdjlngohhlmaaDoor
