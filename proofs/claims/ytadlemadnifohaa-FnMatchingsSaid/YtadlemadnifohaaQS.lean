/-
  Sums of numbers, by the great laws' qSum.
-/
import Derived.Test.YtadlemadnifohaaQ
import Derived.Test.YtadlemadnifohaaMatchQ
namespace Go.Proofs.Ytadlemadnifohaa
open Go.RowKit Go.ChangeShapes Go.WideShapes Go.Sort

theorem sumN_bd {X : Nat → Int} {M : Int} (hM : 0 ≤ M) : ∀ n, (∀ i, i < n → -M ≤ X i ∧ X i ≤ M) → -(n * M) ≤ sumN X n ∧ sumN X n ≤ n * M
  | 0, _ => by simp [sumN]
  | n + 1, h => by
    have a := sumN_bd hM n (fun i hi => h i (by omega))
    have b := h n (by omega)
    have e : ((n + 1 : Nat) : Int) * M = n * M + M := by rw [Int.natCast_add, Int.add_mul]; simp
    simp only [sumN]
    rw [e]
    omega
set_option maxHeartbeats 1000000 in
theorem qSum_g (v : Value) (n : Nat) (X : Nat → Int) (w : World) (h : Ints w v n X) (hn : n ≤ 100) (hX : ∀ i, i < n → -2100001 ≤ X i ∧ X i ≤ 2100001) :
    Calls Try.prog 26 #[v] w (Ans w (.int .i64 (sumN X n))) := by
  obtain ⟨A, c, rfl, hnc, hrow⟩ := h
  have HX := Lib.hid hX
  clear hX
  go_enter Try.func26, Try.ntmps26
  go_wp2_with fail
  go_loopw [3, 8] (fun s i wr => ∃ k : Nat, k ≤ n ∧ i = .int .i64 k ∧ s = .int .i64 (sumN X k) ∧ Below w.heap.size w wr) (fun _ i _ => n - (intOf i).toNat)
  case atStart => exact ⟨0, by omega, rfl, rfl, Below.refl _ _⟩
  case round =>
    obtain ⟨k, hk, rfl, rfl, hb⟩ := hrel
    by_cases hlt : k < n
    · obtain ⟨b, o, rfl, hr⟩ := hrow (by omega)
      have c1 := up_keep hb (hr k hlt)
      have hs := sumN_bd (X := X) (M := 2100001) (by omega) k (fun i hi => HX.out i (by omega))
      have hx := HX.out k hlt
      have hkm : (k : Int) * 2100001 ≤ 100 * 2100001 := Int.mul_le_mul_of_nonneg_right (by omega) (by omega)
      have HSu := Lib.hid (show sumN X (k + 1) = sumN X k + X k from rfl)
      clear hr hrow
      generalize sumN X k = sk at *
      generalize X k = xk at *
      have z1 : IntKind.i64.wrap (sk + xk) = sk + xk := IntWalk.i64_in _ (by omega)
      go_wp2_with fail
      go_roundw
      case rel => exact ⟨k + 1, by omega, by go_num, by rw [HSu.out], hb⟩
      case measure => simp [intOf]; omega
    · have e : k = n := by omega
      subst e
      go_wp2_with fail
      go_ret
      exact ⟨rfl, hb⟩
end Go.Proofs.Ytadlemadnifohaa
