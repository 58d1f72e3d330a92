/-
  A step of a digest is one to one in each of its arguments; so are joins, roots and climbing. Plain laws.
-/
import Derived.Test.YtjmfaebimgnblaaPureB
namespace Go.Proofs.Ytjmfaebimgnblaa
open Go.RowKit

def stpB (h w : BitVec 64) : BitVec 64 :=
  (((h ^^^ w) * 15485907386658061715#64) ^^^ (((h ^^^ w) * 15485907386658061715#64) >>> 32)) * 11562461410679940143#64

theorem bits_xor_toNat (a b : Int) : bits .xor .u64 a b = ((BitVec.ofInt 64 a ^^^ BitVec.ofInt 64 b).toNat : Int) := by
  show IntKind.u64.wrap ((BitVec.ofInt 64 a ^^^ BitVec.ofInt 64 b).toNat : Int) = _
  rw [IntKind.wrap_u64]
  have := (BitVec.ofInt 64 a ^^^ BitVec.ofInt 64 b).isLt
  omega

theorem wrap_mul (x c : BitVec 64) : IntKind.u64.wrap ((x.toNat : Int) * (c.toNat : Int)) = ((x * c).toNat : Int) := by
  rw [IntKind.wrap_u64, BitVec.toNat_mul]
  have : ((x.toNat : Int) * (c.toNat : Int)) = ((x.toNat * c.toNat : Nat) : Int) := by simp
  rw [this]
  omega

theorem ofInt_toNat (x : BitVec 64) : BitVec.ofInt 64 (x.toNat : Int) = x := by
  rw [BitVec.ofInt_natCast]
  simp

theorem div_shift (x : BitVec 64) : (x.toNat : Int) / (4294967296 : Int) = ((x >>> 32).toNat : Int) := by
  rw [BitVec.toNat_ushiftRight, Nat.shiftRight_eq_div_pow]
  simp

theorem stp_eq (h w : Int) : stp h w = ((stpB (BitVec.ofInt 64 h) (BitVec.ofInt 64 w)).toNat : Int) := by
  unfold stp stpB
  rw [bits_xor_toNat h w]
  generalize BitVec.ofInt 64 h ^^^ BitVec.ofInt 64 w = x
  have e1 : ((x.toNat : Int) * (15485907386658061715 : Int)) = (x.toNat : Int) * ((15485907386658061715#64).toNat : Int) := by rfl
  rw [e1, wrap_mul]
  generalize x * 15485907386658061715#64 = y
  rw [div_shift, bits_xor_toNat, ofInt_toNat, ofInt_toNat]
  have e2 : (((y ^^^ y >>> 32).toNat : Int) * (11562461410679940143 : Int)) = ((y ^^^ y >>> 32).toNat : Int) * ((11562461410679940143#64).toNat : Int) := by rfl
  rw [e2, wrap_mul]

theorem mul_inj (c d x y : BitVec 64) (hcd : c * d = 1#64) (h : x * c = y * c) : x = y := by
  have : x * c * d = y * c * d := by rw [h]
  rwa [BitVec.mul_assoc, BitVec.mul_assoc, hcd, BitVec.mul_one, BitVec.mul_one] at this

theorem xs_inj (x y : BitVec 64) (h : x ^^^ (x >>> 32) = y ^^^ (y >>> 32)) : x = y := by
  have key : ∀ z : BitVec 64, (z ^^^ (z >>> 32)) ^^^ ((z ^^^ (z >>> 32)) >>> 32) = z := by
    intro z
    rw [BitVec.ushiftRight_xor_distrib, ← BitVec.shiftRight_add]
    have : z >>> (32 + 32) = 0#64 := by
      apply BitVec.eq_of_toNat_eq
      rw [BitVec.toNat_ushiftRight, Nat.shiftRight_eq_div_pow]
      have := z.isLt
      simp
      omega
    rw [this, BitVec.xor_zero, BitVec.xor_assoc, BitVec.xor_self, BitVec.xor_zero]
  rw [← key x, ← key y, h]

theorem stpB_inj {h w h' w' : BitVec 64} (e : stpB h w = stpB h' w') : h ^^^ w = h' ^^^ w' := by
  unfold stpB at e
  have e1 := mul_inj _ 10636502746458383055#64 _ _ (by decide) e
  have e2 := xs_inj _ _ e1
  exact mul_inj _ 14982988110149298331#64 _ _ (by decide) e2

/-- A number of 64 bits. -/
def In64 (x : Int) : Prop := 0 ≤ x ∧ x < 18446744073709551616

theorem stp_in (h w : Int) : In64 (stp h w) := by
  rw [stp_eq]
  have := (stpB (BitVec.ofInt 64 h) (BitVec.ofInt 64 w)).isLt
  unfold In64
  omega

theorem ofInt_inj {x y : Int} (hx : In64 x) (hy : In64 y) (h : BitVec.ofInt 64 x = BitVec.ofInt 64 y) : x = y := by
  unfold In64 at hx hy
  have := congrArg BitVec.toNat h
  rw [BitVec.toNat_ofInt, BitVec.toNat_ofInt] at this
  omega

theorem stp_left {h h' w : Int} (hh : In64 h) (hh' : In64 h') (e : stp h w = stp h' w) : h = h' := by
  rw [stp_eq, stp_eq] at e
  have e1 := stpB_inj (BitVec.eq_of_toNat_eq (Int.ofNat.inj e))
  refine ofInt_inj hh hh' ?_
  have : (BitVec.ofInt 64 h ^^^ BitVec.ofInt 64 w) ^^^ BitVec.ofInt 64 w = (BitVec.ofInt 64 h' ^^^ BitVec.ofInt 64 w) ^^^ BitVec.ofInt 64 w := by rw [e1]
  simpa [BitVec.xor_assoc] using this

theorem stp_right {h w w' : Int} (hw : In64 w) (hw' : In64 w') (e : stp h w = stp h w') : w = w' := by
  rw [stp_eq, stp_eq] at e
  have e1 := stpB_inj (BitVec.eq_of_toNat_eq (Int.ofNat.inj e))
  refine ofInt_inj hw hw' ?_
  have : BitVec.ofInt 64 h ^^^ (BitVec.ofInt 64 h ^^^ BitVec.ofInt 64 w) = BitVec.ofInt 64 h ^^^ (BitVec.ofInt 64 h ^^^ BitVec.ofInt 64 w') := by rw [e1]
  simpa [← BitVec.xor_assoc] using this

theorem joinF_in (a b : Int) : In64 (joinF a b) := stp_in _ _
theorem joinF_left {a a' b : Int} (ha : In64 a) (ha' : In64 a') (e : joinF a b = joinF a' b) : a = a' :=
  stp_right ha ha' (stp_left (stp_in _ _) (stp_in _ _) e)
theorem joinF_right {a b b' : Int} (hb : In64 b) (hb' : In64 b') (e : joinF a b = joinF a b') : b = b' := stp_right hb hb' e

end Go.Proofs.Ytjmfaebimgnblaa
