/- Words and contracts, part 2. -/
import Derived.Test.YtbfhfjpfjkdcfaaGreatDoorRows
import Derived.Lib.ItoaNum
import Derived.Lib.ItoaMem
import Derived.Laws.Concat
import Derived.Laws.IdiomStrings
import Derived.Laws.BytesArg
import Derived.Test.YtbfhfjpfjkdcfaaGreatDoorZ1
namespace Go.Proofs.YtbfhfjpfjkdcfaaGreatDoor
open Go.RowKit Go.Sort

/-- A list of bytes as a string's bytes. -/
def bS (l : List UInt8) : ByteArray := ⟨l.toArray⟩
theorem bS_app (a b : List UInt8) : bS a ++ bS b = bS (a ++ b) := ByteArray.mk_append_mk ..
theorem bS_size (a : List UInt8) : (bS a).size = a.length := by show a.toArray.size = _; simp
theorem add_bS {P : Program} (a b : List UInt8) (h : a.length + b.length ≤ 1000000) (w : World) : (Op.stringOp .add (bS a) (bS b)).run P w = .ok (.string (bS (a ++ b))) w := by
  rw [run_string_add_sum w _ _ (by rw [bS_size, bS_size]; omega), bS_app]
/-- Eighths in whole steps and the rest. -/
def stpL (n : Nat) : List UInt8 := if n % 8 = 0 then Lib.decDigits (n / 8) else Lib.decDigits (n / 8) ++ 43 :: Lib.decDigits (n % 8)
def spL (x y : Nat) : List UInt8 := stpL x ++ 44 :: stpL y
def txL (X Y : Nat → Int) : Nat → List UInt8
  | 0 => []
  | n + 1 => txL X Y n ++ (spL (X n).toNat (Y n).toNat ++ [10])
theorem dec_len {n : Nat} (h : n ≤ 999) : (Lib.decDigits n).length ≤ 3 := by
  by_cases h1 : n < 10
  · rw [Lib.decDigits_one h1]; simp
  · by_cases h2 : n < 100
    · rw [Lib.decDigits_two h1 h2]; simp
    · have : (Lib.decDigits n).length = (Lib.decDigits (n / 10)).length + 1 := by
        rw [Lib.decDigits, dif_neg h1]; simp
      rw [this, Lib.decDigits_two (by omega) (by omega)]; simp
theorem dec_step {n : Nat} (h : ¬ n < 10) : Lib.decDigits n = Lib.decDigits (n / 10) ++ [UInt8.ofNat (48 + n % 10)] := by
  rw [Lib.decDigits, dif_neg h]
theorem stp_len {n : Nat} (h : n ≤ 1280) : (stpL n).length ≤ 7 := by
  have a := dec_len (n := n / 8) (by omega)
  have b := dec_len (n := n % 8) (by omega)
  unfold stpL
  split
  · omega
  · rw [List.length_append, List.length_cons]; omega
theorem sp_len {x y : Nat} (hx : x ≤ 1280) (hy : y ≤ 1280) : (spL x y).length ≤ 15 := by
  have := stp_len hx
  have := stp_len hy
  unfold spL
  rw [List.length_append, List.length_cons]; omega
theorem tx_len {X Y : Nat → Int} : ∀ {n : Nat}, (∀ i, i < n → (0 ≤ X i ∧ X i ≤ 1280) ∧ 0 ≤ Y i ∧ Y i ≤ 672) → (txL X Y n).length ≤ 16 * n
  | 0, _ => by simp [txL]
  | n + 1, h => by
    have ih := tx_len (X := X) (Y := Y) (n := n) (fun i hi => h i (by omega))
    have hb := h n (by omega)
    have := sp_len (x := (X n).toNat) (y := (Y n).toNat) (by omega) (by omega)
    simp only [txL, List.length_append, List.length_cons, List.length_nil]
    omega
/-- One byte as a string. -/
theorem byte_str {P : Program} {src dst e : TypeId} (hs : P.underlying src = some (.slice e)) (he : P.underlying e = some (.int .u8)) (hd : P.underlying dst = some .string) (W : World) (g : Nat) (c : Nat) (hc : c < 256)
    (h : W.cell? ⟨g, 0, none⟩ = some (.int .u8 (c : Int))) : (convert src dst (.slice (some ⟨g, 0, none⟩) 1 1)).run P W = .ok (.string (bS [UInt8.ofNat c])) W :=
  run_convert_bytes_back W src dst e ⟨g, 0, none⟩ 1 [UInt8.ofNat c] hs he hd (fun j hj => by
    have : j = 0 := by simpa using hj
    subst this
    have e2 : ((UInt8.ofNat c).toNat : Int) = c := by
      rw [UInt8.toNat_ofNat', Nat.mod_eq_of_lt hc]
    show W.cell? (Addr.add ⟨g, 0, none⟩ 0) = some (.int .u8 ((UInt8.ofNat c).toNat : Int))
    rw [e2]
    exact h)
end Go.Proofs.YtbfhfjpfjkdcfaaGreatDoor
