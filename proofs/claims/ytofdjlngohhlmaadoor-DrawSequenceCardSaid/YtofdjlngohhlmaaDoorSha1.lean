/- SHA-256: the turning of a word, in both packages. -/
import Derived.Test.YtofdjlngohhlmaaDoorChecked
import Derived.Test.YtofdjlngohhlmaaDoorBits
namespace Go.Proofs.YtofdjlngohhlmaaDoor
open Go.RowKit

/-- a word turned to the right -/
def rotr (x : BitVec 32) (k : Nat) : BitVec 32 := x >>> k ||| x <<< (32 - k)

theorem turn_bits : ∀ k : Fin 32, 0 < k.val → bits .and .u64 (IntKind.u64.wrap (-(k.val : Int))) 31 = ((32 - k.val : Nat) : Int) := by decide +kernel
theorem turn_less : ∀ k : Fin 32, 0 < k.val → IntKind.u64.wrap (32 - ((32 - k.val : Nat) : Int)) = (k.val : Int) := by decide +kernel
theorem rotateLeft32 (x : BitVec 32) (k : Nat) (hk : 0 < k) (hk2 : k < 32) (w : World) :
    Calls Tryd.prog 38 #[wrd x, .int .i64 (-(k : Int))] w (RetW w (wrd (rotr x k))) := by
  have h1 := turn_bits ⟨k, hk2⟩ hk
  have h2 := turn_less ⟨k, hk2⟩ hk
  simp only at h1 h2
  obtain ⟨j, hj⟩ : ∃ j, 32 - k = j := ⟨_, rfl⟩
  rw [hj] at h1 h2
  have hr : rotr x k = x >>> k ||| x <<< j := by rw [← hj]; rfl
  rw [hr]
  have hj32 : j ≤ 32 := by omega
  clear hr hj
  go_enter Tryd.func38, Tryd.ntmps38
  unfold wrd
  go_wp2
  go_ret
  have e : bits .or .u32 ((x.toNat : Int) * 2 ^ j % 4294967296) ((x.toNat : Int) / 2 ^ k) = ((x >>> k ||| x <<< j).toNat : Int) := by
    rw [u32_shl', u32_shr', u32_or', BitVec.or_comm]
  exact ⟨ret_of (congrArg (Value.int .u32) e), rfl⟩
theorem rot_less : ∀ k : Fin 32, 0 < k.val → IntKind.u64.wrap (32 - (k.val : Int)) = ((32 - k.val : Nat) : Int) := by decide +kernel
theorem ref_rot (x : BitVec 32) (k : Nat) (hk : 0 < k) (hk2 : k < 32) (w : World) :
    Calls Tryd.prog 35 #[wrd x, .int .u64 (k : Int)] w (RetW w (wrd (rotr x k))) := by
  have h2 := rot_less ⟨k, hk2⟩ hk
  simp only at h2
  obtain ⟨j, hj⟩ : ∃ j, 32 - k = j := ⟨_, rfl⟩
  rw [hj] at h2
  have hr : rotr x k = x >>> k ||| x <<< j := by rw [← hj]; rfl
  rw [hr]
  have hj32 : j ≤ 32 := by omega
  clear hr hj
  go_enter Tryd.func35, Tryd.ntmps35
  unfold wrd
  go_wp2
  go_ret
  have e : bits .or .u32 ((x.toNat : Int) / 2 ^ k) ((x.toNat : Int) * 2 ^ j % 4294967296) = ((x >>> k ||| x <<< j).toNat : Int) := by
    rw [u32_shl', u32_shr', u32_or']
  exact ⟨ret_of (congrArg (Value.int .u32) e), rfl⟩
theorem rotl2 (x : BitVec 32) (w : World) : Calls Tryd.prog 38 #[.int .u32 (x.toNat : Int), .int .i64 (-2)] w (RetW w (.int .u32 ((rotr x 2).toNat : Int))) := rotateLeft32 x 2 (by omega) (by omega) w
theorem refrot2 (x : BitVec 32) (w : World) : Calls Tryd.prog 35 #[.int .u32 (x.toNat : Int), .int .u64 2] w (RetW w (.int .u32 ((rotr x 2).toNat : Int))) := ref_rot x 2 (by omega) (by omega) w
theorem rotl6 (x : BitVec 32) (w : World) : Calls Tryd.prog 38 #[.int .u32 (x.toNat : Int), .int .i64 (-6)] w (RetW w (.int .u32 ((rotr x 6).toNat : Int))) := rotateLeft32 x 6 (by omega) (by omega) w
theorem refrot6 (x : BitVec 32) (w : World) : Calls Tryd.prog 35 #[.int .u32 (x.toNat : Int), .int .u64 6] w (RetW w (.int .u32 ((rotr x 6).toNat : Int))) := ref_rot x 6 (by omega) (by omega) w
theorem rotl7 (x : BitVec 32) (w : World) : Calls Tryd.prog 38 #[.int .u32 (x.toNat : Int), .int .i64 (-7)] w (RetW w (.int .u32 ((rotr x 7).toNat : Int))) := rotateLeft32 x 7 (by omega) (by omega) w
theorem refrot7 (x : BitVec 32) (w : World) : Calls Tryd.prog 35 #[.int .u32 (x.toNat : Int), .int .u64 7] w (RetW w (.int .u32 ((rotr x 7).toNat : Int))) := ref_rot x 7 (by omega) (by omega) w
theorem rotl11 (x : BitVec 32) (w : World) : Calls Tryd.prog 38 #[.int .u32 (x.toNat : Int), .int .i64 (-11)] w (RetW w (.int .u32 ((rotr x 11).toNat : Int))) := rotateLeft32 x 11 (by omega) (by omega) w
theorem refrot11 (x : BitVec 32) (w : World) : Calls Tryd.prog 35 #[.int .u32 (x.toNat : Int), .int .u64 11] w (RetW w (.int .u32 ((rotr x 11).toNat : Int))) := ref_rot x 11 (by omega) (by omega) w
theorem rotl13 (x : BitVec 32) (w : World) : Calls Tryd.prog 38 #[.int .u32 (x.toNat : Int), .int .i64 (-13)] w (RetW w (.int .u32 ((rotr x 13).toNat : Int))) := rotateLeft32 x 13 (by omega) (by omega) w
theorem refrot13 (x : BitVec 32) (w : World) : Calls Tryd.prog 35 #[.int .u32 (x.toNat : Int), .int .u64 13] w (RetW w (.int .u32 ((rotr x 13).toNat : Int))) := ref_rot x 13 (by omega) (by omega) w
theorem rotl17 (x : BitVec 32) (w : World) : Calls Tryd.prog 38 #[.int .u32 (x.toNat : Int), .int .i64 (-17)] w (RetW w (.int .u32 ((rotr x 17).toNat : Int))) := rotateLeft32 x 17 (by omega) (by omega) w
theorem refrot17 (x : BitVec 32) (w : World) : Calls Tryd.prog 35 #[.int .u32 (x.toNat : Int), .int .u64 17] w (RetW w (.int .u32 ((rotr x 17).toNat : Int))) := ref_rot x 17 (by omega) (by omega) w
theorem rotl18 (x : BitVec 32) (w : World) : Calls Tryd.prog 38 #[.int .u32 (x.toNat : Int), .int .i64 (-18)] w (RetW w (.int .u32 ((rotr x 18).toNat : Int))) := rotateLeft32 x 18 (by omega) (by omega) w
theorem refrot18 (x : BitVec 32) (w : World) : Calls Tryd.prog 35 #[.int .u32 (x.toNat : Int), .int .u64 18] w (RetW w (.int .u32 ((rotr x 18).toNat : Int))) := ref_rot x 18 (by omega) (by omega) w
theorem rotl19 (x : BitVec 32) (w : World) : Calls Tryd.prog 38 #[.int .u32 (x.toNat : Int), .int .i64 (-19)] w (RetW w (.int .u32 ((rotr x 19).toNat : Int))) := rotateLeft32 x 19 (by omega) (by omega) w
theorem refrot19 (x : BitVec 32) (w : World) : Calls Tryd.prog 35 #[.int .u32 (x.toNat : Int), .int .u64 19] w (RetW w (.int .u32 ((rotr x 19).toNat : Int))) := ref_rot x 19 (by omega) (by omega) w
theorem rotl22 (x : BitVec 32) (w : World) : Calls Tryd.prog 38 #[.int .u32 (x.toNat : Int), .int .i64 (-22)] w (RetW w (.int .u32 ((rotr x 22).toNat : Int))) := rotateLeft32 x 22 (by omega) (by omega) w
theorem refrot22 (x : BitVec 32) (w : World) : Calls Tryd.prog 35 #[.int .u32 (x.toNat : Int), .int .u64 22] w (RetW w (.int .u32 ((rotr x 22).toNat : Int))) := ref_rot x 22 (by omega) (by omega) w
theorem rotl25 (x : BitVec 32) (w : World) : Calls Tryd.prog 38 #[.int .u32 (x.toNat : Int), .int .i64 (-25)] w (RetW w (.int .u32 ((rotr x 25).toNat : Int))) := rotateLeft32 x 25 (by omega) (by omega) w
theorem refrot25 (x : BitVec 32) (w : World) : Calls Tryd.prog 35 #[.int .u32 (x.toNat : Int), .int .u64 25] w (RetW w (.int .u32 ((rotr x 25).toNat : Int))) := ref_rot x 25 (by omega) (by omega) w
end Go.Proofs.YtofdjlngohhlmaaDoor
