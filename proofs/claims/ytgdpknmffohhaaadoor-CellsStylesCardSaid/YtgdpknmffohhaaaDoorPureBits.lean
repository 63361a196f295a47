/- What the plain laws of styles need of bits. -/
import Derived.Test.YtgdpknmffohhaaaDoorM0
import Derived.IntWalk
namespace Go.Proofs.YtgdpknmffohhaaaDoor.Pure
open Go.RowKit Go.Proofs.YtgdpknmffohhaaaDoor.Pr
theorem wrap_toInt_ (v : BitVec 64) : IntKind.i64.wrap (v.toNat : Int) = v.toInt := by
  have h := v.isLt
  rw [BitVec.toInt_eq_toNat_cond, IntWalk.i64_left]
  unfold wrap64
  split <;> omega
theorem and_bv_ (x y : Int) : Go.bits .and .i64 x y = (BitVec.ofInt 64 x &&& BitVec.ofInt 64 y).toInt := wrap_toInt_ _
theorem or_bv_ (x y : Int) : Go.bits .or .i64 x y = (BitVec.ofInt 64 x ||| BitVec.ofInt 64 y).toInt := wrap_toInt_ _
theorem andNot_bv_ (x y : Int) : Go.bits .andNot .i64 x y = (BitVec.ofInt 64 x &&& ~~~ BitVec.ofInt 64 y).toInt := wrap_toInt_ _
theorem bv1_ (x c s m : BitVec 64) : ((x &&& ~~~(c &&& m)) ||| (s &&& m)) &&& (s &&& m) = s &&& m := by
  ext i hi
  simp
  cases x[i] <;> cases c[i] <;> cases s[i] <;> cases m[i] <;> simp
theorem bv2_ (x c s m : BitVec 64) : ((x &&& ~~~(c &&& m)) ||| (s &&& m)) &&& ((c &&& m) &&& ~~~s) = 0#64 := by
  ext i hi
  simp
  cases x[i] <;> cases c[i] <;> cases s[i] <;> cases m[i] <;> simp
theorem bv3_ (x c s : BitVec 64) : (((x &&& ~~~c) ||| s) &&& ~~~c) ||| s = (x &&& ~~~c) ||| s := by
  ext i hi
  simp
  cases x[i] <;> cases c[i] <;> cases s[i] <;> simp
theorem bv4_ (x c s m : BitVec 64) (h : x &&& m = x) : ((x &&& ~~~(c &&& m)) ||| (s &&& m)) &&& m = (x &&& ~~~(c &&& m)) ||| (s &&& m) := by
  rw [← h]
  ext i hi
  simp
  cases x[i] <;> cases c[i] <;> cases s[i] <;> cases m[i] <;> simp
theorem over_bv_ (s c : Int) (x : S71) : (over_ s c x).f1 = ((BitVec.ofInt 64 x.f1 &&& ~~~(BitVec.ofInt 64 c &&& 15#64)) ||| (BitVec.ofInt 64 s &&& 15#64)).toInt := by
  show Go.bits .or .i64 (Go.bits .andNot .i64 x.f1 (Go.bits .and .i64 c 15)) (Go.bits .and .i64 s 15) = _
  rw [or_bv_, andNot_bv_, and_bv_, and_bv_]
  simp only [BitVec.ofInt_toInt]
  rfl
/-- what was set all of these have -/
theorem over_all_ (s c : Int) (x : S71) : Go.bits .and .i64 (over_ s c x).f1 (Go.bits .and .i64 s 15) = Go.bits .and .i64 s 15 := by
  rw [over_bv_, and_bv_, and_bv_]
  simp only [BitVec.ofInt_toInt]
  exact congrArg BitVec.toInt (bv1_ _ _ _ 15#64)
/-- what was cleared and not set, none -/
theorem over_none_ (s c : Int) (x : S71) : Go.bits .and .i64 (over_ s c x).f1 (Go.bits .andNot .i64 (Go.bits .and .i64 c 15) s) = 0 := by
  rw [over_bv_, and_bv_, andNot_bv_, and_bv_]
  simp only [BitVec.ofInt_toInt]
  exact (congrArg BitVec.toInt (bv2_ _ _ _ 15#64)).trans (by decide)
theorem over_twice_ (s c : Int) (x : S71) : over_ s c (over_ s c x) = over_ s c x := by
  have h : (over_ s c (over_ s c x)).f1 = (over_ s c x).f1 := by
    rw [over_bv_, over_bv_, BitVec.ofInt_toInt, bv3_]
  have h2 : over_ s c (over_ s c x) = ⟨x.f0, (over_ s c (over_ s c x)).f1, x.f2⟩ := rfl
  rw [h2, h]
  rfl
theorem over_low_ (s c : Int) (x : S71) (h0 : 0 ≤ x.f1) (h1 : x.f1 ≤ 15) : 0 ≤ (over_ s c x).f1 ∧ (over_ s c x).f1 ≤ 15 := by
  have hx : BitVec.ofInt 64 x.f1 &&& 15#64 = BitVec.ofInt 64 x.f1 := by
    obtain ⟨n, hn⟩ := Int.eq_ofNat_of_zero_le h0
    rw [hn] at h1 ⊢
    have : n ≤ 15 := by omega
    have h16 : ∀ n : Fin 16, BitVec.ofInt 64 ((n.val : Nat) : Int) &&& 15#64 = BitVec.ofInt 64 ((n.val : Nat) : Int) := by decide
    exact h16 ⟨n, by omega⟩
  rw [over_bv_, ← bv4_ _ _ _ _ hx]
  generalize ((BitVec.ofInt 64 x.f1 &&& ~~~(BitVec.ofInt 64 c &&& 15#64)) ||| (BitVec.ofInt 64 s &&& 15#64)) = v
  have hv : (v &&& 15#64).toNat ≤ 15 := by
    rw [BitVec.toNat_and]
    exact Nat.and_le_right
  rw [BitVec.toInt_eq_toNat_cond, if_pos (by omega)]
  omega
end Go.Proofs.YtgdpknmffohhaaaDoor.Pure
