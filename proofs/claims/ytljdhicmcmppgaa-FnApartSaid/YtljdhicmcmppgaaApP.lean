/-
  Plain laws of FnApart.
-/
import Derived.Test.YtljdhicmcmppgaaRows
import Derived.Test.YtljdhicmcmppgaaBase
import Derived.Test.YtljdhicmcmppgaaSpot
import Derived.Test.YtljdhicmcmppgaaMove
import Derived.Test.YtljdhicmcmppgaaGcd
import Derived.Test.YtljdhicmcmppgaaApart
import Derived.Test.YtljdhicmcmppgaaApartS
import Derived.Test.YtljdhicmcmppgaaPlaceAt
import Derived.Test.YtljdhicmcmppgaaApartAt
import Derived.Test.YtljdhicmcmppgaaCloseC
import Derived.Test.YtljdhicmcmppgaaStay
import Derived.Test.YtljdhicmcmppgaaFrac
namespace Go.Proofs.Ytljdhicmcmppgaa
open Go.RowKit

theorem low_mul {a b : Int} (hb : 0 < b) : ∃ g : Int, 0 < g ∧ lowA a b * g = a ∧ lowB a b * g = b := by
  have hg := (gcd_pos (a := a) hb).1
  exact ⟨(Int.gcd a b : Int), hg, Int.ediv_mul_cancel (Int.gcd_dvd_left ..), Int.ediv_mul_cancel (Int.gcd_dvd_right ..)⟩
/-- Lowest terms are told by the fraction alone. -/
theorem low_uniq {a b c d : Int} (hb : 0 < b) (hd : 0 < d) (h : a * d = c * b) : lowA a b = lowA c d ∧ lowB a b = lowB c d := by
  have hg1 := (gcd_pos (a := a) hb).1
  have hg2 := (gcd_pos (a := c) hd).1
  have e1 : (Int.gcd (a * d) (b * d) : Int) = Int.gcd a b * d := by rw [Int.gcd_mul_right, Int.natCast_mul, show ((d.natAbs : Nat) : Int) = d by omega]
  have e2 : (Int.gcd (c * b) (d * b) : Int) = Int.gcd c d * b := by rw [Int.gcd_mul_right, Int.natCast_mul, show ((b.natAbs : Nat) : Int) = b by omega]
  have e3 : (Int.gcd a b : Int) * d = Int.gcd c d * b := by rw [← e1, ← e2, h, Int.mul_comm b d]
  have key : ∀ {x y g k : Int}, 0 < g → 0 < k → g ∣ x → k ∣ y → x * k = y * g → x / g = y / k := by
    intro x y g k hg hk h1 h2 h3
    obtain ⟨p, rfl⟩ := h1
    obtain ⟨q, rfl⟩ := h2
    rw [Int.mul_ediv_cancel_left _ (by omega), Int.mul_ediv_cancel_left _ (by omega)]
    have h4 : g * k * p = g * k * q := by grind
    exact Int.eq_of_mul_eq_mul_left (by have := Int.mul_pos hg hk; omega) h4
  have e4 : a * (Int.gcd c d : Int) = c * Int.gcd a b := by
    have : b * (a * (Int.gcd c d : Int)) = b * (c * Int.gcd a b) := by grind
    exact Int.eq_of_mul_eq_mul_left (by omega) this
  have e5 : b * (Int.gcd c d : Int) = d * Int.gcd a b := by grind
  exact ⟨key hg1 hg2 (Int.gcd_dvd_left ..) (Int.gcd_dvd_left ..) e4, key hg1 hg2 (Int.gcd_dvd_right ..) (Int.gcd_dvd_right ..) e5⟩
/-- What the square after s of c counts is, by the way between the moves. -/
def dAt (px py vx vy c s : Int) : Int := (c * px + s * vx) * (c * px + s * vx) + (c * py + s * vy) * (c * py + s * vy)
theorem sqm_dAt (x y u v x' y' u' v' c s : Int) : sqm x y u v x' y' u' v' c s = dAt (x - x') (y - y') (u - u' - (x - x')) (v - v' - (y - y')) c s := by
  unfold sqm dAt pAt
  grind
/-- The least square is none greater than at any count. -/
theorem ap_least {px py vx vy c s : Int} (h0 : 0 ≤ s) (h1 : s ≤ c) (hc : 1 ≤ c) {dot sz : Int} (hd : dot = px * vx + py * vy) (hs : sz = vx * vx + vy * vy) :
    (ap px py vx vy dot sz).1 * (c * c) ≤ dAt px py vx vy c s * (ap px py vx vy dot sz).2 := by
  have hD : dAt px py vx vy c s = c * c * (px * px + py * py) + 2 * (c * s) * dot + s * s * sz := by subst hd hs; unfold dAt; grind
  have hsz : 0 ≤ sz := by rw [hs]; have := sq_nonneg vx; have := sq_nonneg vy; omega
  unfold ap
  split
  · rename_i hdot
    simp only [Int.mul_one]
    have a1 : 0 ≤ c * s * dot := Int.mul_nonneg (Int.mul_nonneg (by omega) h0) hdot
    have a2 : 0 ≤ s * s * sz := Int.mul_nonneg (Int.mul_nonneg h0 h0) hsz
    have a3 : 2 * (c * s) * dot = 2 * (c * s * dot) := by grind
    rw [hD, a3, Int.mul_comm (px * px + py * py)]
    omega
  · split
    · rename_i hdot hle
      simp only [Int.mul_one]
      have e : dAt px py vx vy c s - ((px + vx) * (px + vx) + (py + vy) * (py + vy)) * (c * c) = (c - s) * (-(2 * c * dot + (s + c) * sz)) := by
        rw [hD]; subst hd hs; grind
      have a1 : 0 ≤ -(2 * c * dot + (s + c) * sz) := by
        have b1 : (s + c) * sz ≤ (2 * c) * sz := Int.mul_le_mul_of_nonneg_right (by omega) hsz
        have b2 : 2 * c * (dot + sz) ≤ 0 := Int.mul_nonpos_of_nonneg_of_nonpos (by omega) (by omega)
        have b3 : 2 * c * (dot + sz) = 2 * c * dot + 2 * c * sz := by grind
        omega
      have a2 : 0 ≤ (c - s) * (-(2 * c * dot + (s + c) * sz)) := Int.mul_nonneg (by omega) a1
      omega
    · rename_i hdot hle
      have hsz1 : 0 < sz := by omega
      simp only
      obtain ⟨g, hg, e1, e2⟩ := low_mul (a := (px * vy - py * vx) * (px * vy - py * vx)) hsz1
      generalize lowA ((px * vy - py * vx) * (px * vy - py * vx)) sz = t at *
      generalize lowB ((px * vy - py * vx) * (px * vy - py * vx)) sz = b at *
      have e3 : dAt px py vx vy c s * sz = (c * dot + s * sz) * (c * dot + s * sz) + c * c * ((px * vy - py * vx) * (px * vy - py * vx)) := by
        rw [hD]; subst hd hs; grind
      have e4 := sq_nonneg (c * dot + s * sz)
      have e5 : g * (t * (c * c)) ≤ g * (dAt px py vx vy c s * b) := by
        have f1 : g * (t * (c * c)) = c * c * ((px * vy - py * vx) * (px * vy - py * vx)) := by rw [← e1]; grind
        have f2 : g * (dAt px py vx vy c s * b) = dAt px py vx vy c s * sz := by rw [← e2]; grind
        rw [f1, f2, e3]
        omega
      exact Int.le_of_mul_le_mul_left e5 hg
/-- The closest time's numerator and denominator. -/
def ctA (dot sz c : Int) : Int := if 0 ≤ dot then 0 else if sz ≤ -dot then c else lowA (-dot * c) sz
def ctZ (dot sz c : Int) : Int := if 0 ≤ dot then 1 else if sz ≤ -dot then 1 else lowB (-dot * c) sz
theorem ct_bd {dot sz c : Int} (hc : 1 ≤ c) (hs : 0 ≤ sz) : 1 ≤ ctZ dot sz c ∧ 0 ≤ ctA dot sz c ∧ ctA dot sz c ≤ c * ctZ dot sz c := by
  unfold ctA ctZ
  split
  · omega
  · split
    · omega
    · have hz : 0 < sz := by omega
      have hn : 0 ≤ -dot * c := Int.mul_nonneg (by omega) (by omega)
      obtain ⟨g, hg, e1, e2⟩ := low_mul (a := -dot * c) hz
      have b1 := lowB_pos (a := -dot * c) hz
      have b2 := (lowA_bd (b := sz) hn).1
      refine ⟨b1, b2, ?_⟩
      have h1 : g * lowA (-dot * c) sz ≤ g * (c * lowB (-dot * c) sz) := by
        rw [Int.mul_comm g, e1, show g * (c * lowB (-dot * c) sz) = c * (lowB (-dot * c) sz * g) by grind, e2, Int.mul_comm]
        exact Int.mul_le_mul_of_nonneg_left (by omega) (by omega)
      exact Int.le_of_mul_le_mul_left h1 hg
/-- Where the closest time is a count, the square there is the least. -/
theorem ct_at {px py vx vy c : Int} (hc : 1 ≤ c) {dot sz : Int} (hd : dot = px * vx + py * vy) (hs : sz = vx * vx + vy * vy) (h1 : ctZ dot sz c = 1) :
    lowA (dAt px py vx vy c (ctA dot sz c)) (c * c) = (ap px py vx vy dot sz).1 ∧ lowB (dAt px py vx vy c (ctA dot sz c)) (c * c) = (ap px py vx vy dot sz).2 := by
  have hcc : 0 < c * c := Int.mul_pos (by omega) (by omega)
  have one : ∀ t : Int, lowA (t * (c * c)) (c * c) = t ∧ lowB (t * (c * c)) (c * c) = 1 := fun t => by
    have := low_uniq (a := t * (c * c)) (b := c * c) (c := t) (d := 1) hcc (by omega) (by omega)
    rw [this.1, this.2]
    unfold lowA lowB
    simp
  have hD : ∀ s, dAt px py vx vy c s = c * c * (px * px + py * py) + 2 * (c * s) * dot + s * s * sz := fun s => by subst hd hs; unfold dAt; grind
  unfold ctA ap
  unfold ctZ at h1
  split
  · rename_i hdot
    rw [hD, show c * c * (px * px + py * py) + 2 * (c * 0) * dot + 0 * 0 * sz = (px * px + py * py) * (c * c) by grind]
    exact one _
  · split
    · rename_i hdot hle
      rw [hD, show c * c * (px * px + py * py) + 2 * (c * c) * dot + c * c * sz = ((px + vx) * (px + vx) + (py + vy) * (py + vy)) * (c * c) by subst hd hs; grind]
      exact one _
    · rename_i hdot hle
      rw [if_neg hdot, if_neg hle] at h1
      have hz : 0 < sz := by omega
      obtain ⟨g, hg, e1, e2⟩ := low_mul (a := -dot * c) hz
      rw [h1, Int.one_mul] at e2
      subst e2
      generalize lowA (-dot * c) g = k at *
      refine low_uniq hcc hz ?_
      have e3 : dAt px py vx vy c k * g = (c * dot + k * g) * (c * dot + k * g) + c * c * ((px * vy - py * vx) * (px * vy - py * vx)) := by
        rw [hD]; grind
      rw [e3, show c * dot + k * g = 0 by rw [e1]; grind]
      grind
/-- The moves the other way round. -/
theorem ap_comm (x y u v x' y' u' v' : Int) : apM x' y' u' v' x y u v = apM x y u v x' y' u' v' := by
  unfold apM
  have e1 : (x' - x) * (u' - u - (x' - x)) + (y' - y) * (v' - v - (y' - y)) = (x - x') * (u - u' - (x - x')) + (y - y') * (v - v' - (y - y')) := by grind
  have e2 : (u' - u - (x' - x)) * (u' - u - (x' - x)) + (v' - v - (y' - y)) * (v' - v - (y' - y)) = (u - u' - (x - x')) * (u - u' - (x - x')) + (v - v' - (y - y')) * (v - v' - (y - y')) := by grind
  rw [e1, e2]
  unfold ap
  rw [show (x' - x) * (x' - x) + (y' - y) * (y' - y) = (x - x') * (x - x') + (y - y') * (y - y') by grind,
    show (x' - x + (u' - u - (x' - x))) * (x' - x + (u' - u - (x' - x))) + (y' - y + (v' - v - (y' - y))) * (y' - y + (v' - v - (y' - y))) = (x - x' + (u - u' - (x - x'))) * (x - x' + (u - u' - (x - x'))) + (y - y' + (v - v' - (y - y'))) * (y - y' + (v - v' - (y - y'))) by grind,
    show (x' - x) * (v' - v - (y' - y)) - (y' - y) * (u' - u - (x' - x)) = (x - x') * (v - v' - (y - y')) - (y - y') * (u - u' - (x - x')) by grind]
end Go.Proofs.Ytljdhicmcmppgaa
