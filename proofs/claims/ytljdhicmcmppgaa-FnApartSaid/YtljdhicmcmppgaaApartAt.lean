/-
  spec.ApartAt for two moves that go together.
-/
import Derived.Test.YtljdhicmcmppgaaRows
import Derived.Test.YtljdhicmcmppgaaBase
import Derived.Test.YtljdhicmcmppgaaSpot
import Derived.Test.YtljdhicmcmppgaaMove
import Derived.Test.YtljdhicmcmppgaaGcd
import Derived.Test.YtljdhicmcmppgaaPlaceAt
namespace Go.Proofs.Ytljdhicmcmppgaa
open Go.RowKit Go.Sort

/-- c² times the square between two moves after s of c counts. -/
def sqm (x y u v x' y' u' v' c s : Int) : Int := (pAt x u c s - pAt x' u' c s) * (pAt x u c s - pAt x' u' c s) + (pAt y v c s - pAt y' v' c s) * (pAt y v c s - pAt y' v' c s)
theorem pAt_in {x u c s K : Int} (hx : 0 ≤ x) (hx' : x ≤ K) (hu : 0 ≤ u) (hu' : u ≤ K) (hc : 1 ≤ c) (hc' : c ≤ 64) (hs : 0 ≤ s) (hs' : s ≤ c) : -(128 * K) ≤ pAt x u c s ∧ pAt x u c s ≤ 128 * K := by
  obtain ⟨h1, h2⟩ := pAt_bd hx hx' hu hu' hc hc' hs hs'
  unfold pAt
  omega
theorem sqm_bd {x y u v x' y' u' v' c s : Int} (h : moveB x y u v c = true) (h' : moveB x' y' u' v' c = true) (hs : 0 ≤ s) (hs' : s ≤ c) :
    (-327680 ≤ pAt x u c s - pAt x' u' c s ∧ pAt x u c s - pAt x' u' c s ≤ 327680) ∧ (-327680 ≤ pAt y v c s - pAt y' v' c s ∧ pAt y v c s - pAt y' v' c s ≤ 327680) ∧
    (0 ≤ (pAt x u c s - pAt x' u' c s) * (pAt x u c s - pAt x' u' c s) ∧ (pAt x u c s - pAt x' u' c s) * (pAt x u c s - pAt x' u' c s) ≤ 107374182400) ∧
    (0 ≤ (pAt y v c s - pAt y' v' c s) * (pAt y v c s - pAt y' v' c s) ∧ (pAt y v c s - pAt y' v' c s) * (pAt y v c s - pAt y' v' c s) ≤ 107374182400) ∧ (1 ≤ c * c ∧ c * c ≤ 4096) := by
  obtain ⟨⟨h1, h2⟩, h3, h4⟩ := moveB_iff.1 h
  obtain ⟨⟨a1, a2⟩, a3, a4⟩ := spotB_iff.1 h1
  obtain ⟨⟨b1, b2⟩, b3, b4⟩ := spotB_iff.1 h2
  obtain ⟨⟨h1', h2'⟩, _, _⟩ := moveB_iff.1 h'
  obtain ⟨⟨c1, c2⟩, c3, c4⟩ := spotB_iff.1 h1'
  obtain ⟨⟨d1, d2⟩, d3, d4⟩ := spotB_iff.1 h2'
  have e1 := pAt_in (K := 1280) a1 a2 b1 b2 h3 h4 hs hs'
  have e2 := pAt_in (K := 1280) a3 (by omega) b3 (by omega) h3 h4 hs hs'
  have e3 := pAt_in (K := 1280) c1 c2 d1 d2 h3 h4 hs hs'
  have e4 := pAt_in (K := 1280) c3 (by omega) d3 (by omega) h3 h4 hs hs'
  have f1 := mul_bd (a := pAt x u c s - pAt x' u' c s) (b := pAt x u c s - pAt x' u' c s) (A := 327680) (B := 327680) (by omega) (by omega) (by omega) (by omega)
  have f2 := mul_bd (a := pAt y v c s - pAt y' v' c s) (b := pAt y v c s - pAt y' v' c s) (A := 327680) (B := 327680) (by omega) (by omega) (by omega) (by omega)
  have f3 := mul_bd (a := c) (b := c) (A := 64) (B := 64) (by omega) (by omega) (by omega) (by omega)
  have f4 := Int.mul_le_mul (show 1 ≤ c from h3) (show 1 ≤ c from h3) (by omega) (by omega)
  exact ⟨by omega, by omega, ⟨sq_nonneg _, by omega⟩, ⟨sq_nonneg _, by omega⟩, by omega, by omega⟩
set_option maxHeartbeats 2000000 in
theorem apartAt_any (x y u v x' y' u' v' c s : Int) (h : moveB x y u v c = true) (h' : moveB x' y' u' v' c = true) (hs : 0 ≤ s) (hs' : s ≤ c) (w : World) :
    Calls Try.prog 17 #[.agg #[.int .i64 x, .int .i64 y, .int .i64 u, .int .i64 v, .int .i64 c], .agg #[.int .i64 x', .int .i64 y', .int .i64 u', .int .i64 v', .int .i64 c], .int .i64 s] w
      (Ans w (.tuple #[.int .i64 (lowA (sqm x y u v x' y' u' v' c s) (c * c)), .int .i64 (lowB (sqm x y u v x' y' u' v' c s) (c * c)), .bool true])) := by
  have HT := Lib.hid (apGood_any x y u v c x' y' u' v' c)
  rw [togB_iff.2 ⟨⟨h, h'⟩, rfl⟩] at HT
  have hin : inB s 0 c = true := inB_iff.2 ⟨hs, hs'⟩
  have HB := sqm_bd h h' hs hs'
  obtain ⟨⟨b1, b2⟩, ⟨b3, b4⟩, ⟨b5, b6⟩, ⟨b7, b8⟩, b9, b10⟩ := HB
  have H := Lib.hid (show sqm x y u v x' y' u' v' c s = (pAt x u c s - pAt x' u' c s) * (pAt x u c s - pAt x' u' c s) + (pAt y v c s - pAt y' v' c s) * (pAt y v c s - pAt y' v' c s) from rfl)
  go_enter Try.func17, Try.ntmps17
  go_wp2_with (first | (go_at_call 36; refine (from0 (HT.out _) (by first | exact hb0 | exact up_alloc hb0 _ | exact up_drew hb0 | exact up_drewN hb0 _ | exact Below.refl _ _)).mono ?_; rintro e w1 ⟨rfl, hb0⟩; obtain ⟨hc0, hf0⟩ := bcell hb0; have hz0 := hb0.size; simp at hz0; have hz1 : w.heap.size < w1.heap.size := (by omega); try have hz2 : w.heap.size + 1 < w1.heap.size := (by omega)) | (go_at_call 52; refine (l1In_any _ _ _ _).mono ?_; rintro e w1 ⟨rfl, rfl⟩) | (go_at_call 53; refine (from0 (mvAt_any _ _ _ _ _ _ (by with_reducible assumption) hs hs' _) (by first | exact hb0 | exact up_alloc hb0 _ | exact up_drew hb0 | exact up_drewN hb0 _ | exact Below.refl _ _)).mono ?_; rintro e w1 ⟨rfl, hb0⟩; obtain ⟨hc0, hf0⟩ := bcell hb0) | (go_at_call 41; refine (from0 (mvPart_any _ _ (by omega) (by omega) (by omega) (by omega) _) (by first | exact hb0 | exact up_alloc hb0 _ | exact up_drew hb0 | exact up_drewN hb0 _ | exact Below.refl _ _)).mono ?_; rintro e w1 ⟨rfl, hb0⟩; obtain ⟨hc0, hf0⟩ := bcell hb0))
  go_ret3
  rw [H.out]
  exact ⟨rfl, by (repeat (first | with_reducible exact Below.refl _ _ | with_reducible assumption | with_reducible refine up_alloc ?_ _ | with_reducible refine up_drew ?_ | with_reducible refine up_drewN ?_ _ | (with_reducible refine up_set ?_ ?hset _; case hset => first | (simp; done) | (simp; omega) | omega) | with_reducible refine up_trans ?_ (by with_reducible assumption)))⟩
set_option maxHeartbeats 400000 in
theorem apDistance_any (d : Int) (w : World) : Calls Try.prog 46 #[.int .i64 d] w fun e w' => e = .returned (.bool (inB d 0 80)) ∧ w = w' := by
  go_enter Try.func46, Try.ntmps46
  go_wp2_with (go_at_call 52; refine (l1In_any _ _ _ _).mono ?_; rintro e w1 ⟨rfl, rfl⟩)
  go_ret
  exact ⟨rfl, rfl⟩
end Go.Proofs.Ytljdhicmcmppgaa
