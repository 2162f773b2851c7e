/-
  How many bits of a small number are set.
-/
import Derived.Test.YtadlemadnifohaaRows
import Derived.Test.YtadlemadnifohaaBase
import Derived.Test.YtadlemadnifohaaMatch
import Derived.Test.YtadlemadnifohaaMatchP
namespace Go.Proofs.Ytadlemadnifohaa
open Go.RowKit

def oc1 (x : Int) : Int := IntKind.u64.wrap (bits .and .u64 (x / 2) 6148914691236517205 + bits .and .u64 x 6148914691236517205)
def oc2 (x : Int) : Int := IntKind.u64.wrap (bits .and .u64 (x / 4) 3689348814741910323 + bits .and .u64 x 3689348814741910323)
def oc3 (x : Int) : Int := bits .and .u64 (IntKind.u64.wrap (x / 16 + x)) 1085102592571150095
def oc4 (x : Int) : Int := IntKind.u64.wrap (x + x / 256)
def oc5 (x : Int) : Int := IntKind.u64.wrap (x + x / 65536)
def oc6 (x : Int) : Int := IntKind.u64.wrap (x + x / 4294967296)
def ocN (x : Int) : Int := bits .and .i64 (wrap64 (oc6 (oc5 (oc4 (oc3 (oc2 (oc1 x))))))) 127
set_option maxRecDepth 100000 in
theorem ocN_eq : ∀ x : Nat, x < 4096 → ocN (x : Int) = ((12 - freeN x 12 : Nat) : Int) := by decide +kernel
theorem freeN_more {u n : Nat} (h : u < 2 ^ n) : ∀ m, freeN u (n + m) = freeN u n + m
  | 0 => rfl
  | m + 1 => by
    have ih := freeN_more h m
    have hb : u.testBit (n + m) = false := Nat.testBit_lt_two_pow (Nat.lt_of_lt_of_le h (Nat.pow_le_pow_right (by omega) (by omega)))
    show freeN u (n + m) + (if u.testBit (n + m) then 0 else 1) = _
    rw [ih, hb]
    simp
    omega
/-- The bits of a set of n. -/
theorem ones_n {u n : Nat} (hn : n ≤ 12) (h : u < 2 ^ n) : 12 - freeN u 12 = n - freeN u n := by
  have := freeN_more h (12 - n)
  rw [show n + (12 - n) = 12 by omega] at this
  omega
theorem lt4096 {u n : Nat} (hn : n ≤ 12) (h : u < 2 ^ n) : u < 4096 := by
  have h2 : 2 ^ n ≤ 2 ^ 12 := Nat.pow_le_pow_right (by omega) hn
  omega
set_option maxRecDepth 100000 in
set_option maxHeartbeats 1000000 in
theorem ones64_any (x : Nat) (hx : x < 4096) (w : World) : Calls Try.prog 62 #[.int .u64 x] w fun e w' => e = .returned (.int .i64 (12 - freeN x 12 : Nat)) ∧ w = w' := by
  have HE := Lib.hid (ocN_eq x hx)
  go_enter Try.func62, Try.ntmps62
  go_wp2
  go_ret
  refine ⟨ret_int ?_, rfl⟩
  show ocN (x : Int) = _
  rw [HE.out]
set_option maxHeartbeats 1000000 in
theorem onesCount_any (u n : Nat) (hn : n ≤ 12) (hu : u < 2 ^ n) (w : World) : Calls Try.prog 41 #[.int .u64 u] w fun e w' => e = .returned (.int .i64 (n - freeN u n : Nat)) ∧ w = w' := by
  have HC := Lib.hid (fun W => ones64_any u (lt4096 hn hu) W)
  rw [ones_n hn hu] at HC
  go_enter Try.func41, Try.ntmps41
  go_wp2_with (go_at_call 62; refine (HC.out _).mono ?_; rintro e w1 ⟨rfl, rfl⟩)
  go_ret
  exact ⟨rfl, rfl⟩
end Go.Proofs.Ytadlemadnifohaa
