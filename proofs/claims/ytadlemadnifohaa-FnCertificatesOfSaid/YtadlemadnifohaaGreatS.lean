/-
  LeastGreatest in the reference.
-/
import Derived.Test.YtadlemadnifohaaWithin
import Derived.Test.YtadlemadnifohaaPutW
import Derived.Deep.RegionHeld3
namespace Go.Proofs.Ytadlemadnifohaa
open Go.RowKit Go.ChangeShapes Go.WideShapes Go.Sort

theorem IncN.le {m : Nat} {A : Nat → Int} (h : IncN m A) {i j : Nat} (hij : i ≤ j) (hj : j < m) : A i ≤ A j := by
  by_cases e : i = j
  · rw [e]; exact Int.le_refl _
  · exact Int.le_of_lt (h i j (by omega) hj)
set_option maxRecDepth 100000 in
set_option maxHeartbeats 4000000 in
theorem sLeastGreatest_g (v : Value) (n : Nat) (R : Nat → Nat) (F : Nat → Nat → Int) (w : World) (h : IRows w v n R F) (hn : n ≤ 1048576) (hR : ∀ i, i < n → R i ≤ 1048576) :
    Calls Try.prog 31 #[v] w (AnsLM w (sel (acB n R F) n) (lgP n F) (if acB n R F then lgV n F else 0) (acB n R F)) := by
  have HA := Lib.hid (maGood_g v n R F w h hn hR)
  cases e1 : acB n R F with
  | false =>
    rw [e1] at HA
    obtain ⟨A, c, rfl, _⟩ := h.shape
    clear h hR e1
    go_enter Try.func31, Try.ntmps31
    go_wp2_with (go_at_call 35; refine (HA.out).mono ?_; rintro e w1 ⟨rfl, hb1⟩)
    go_ret3
    exact AnsLM.nil hb1
  | true =>
    rw [e1] at HA
    obtain ⟨⟨n1, n12⟩, _, hF⟩ := acB_iff e1
    obtain ⟨b, o, c, B, O, C, rfl, hM⟩ := mat_of h e1
    simp only [if_true]
    have HWi := Lib.hid (fun W (m : Int) (hW : Below w.heap.size w W) (hm : 0 ≤ m ∧ m ≤ 2100000) => maWithin_m b o c n F B O C m W (hM.up hW) n1 n12 hm)
    have HEn := Lib.hid (lgV_entry n1 hF)
    have HM := Lib.hid hM
    have HF := Lib.hid hF
    clear h hR e1 hF hM
    go_enter Try.func31, Try.ntmps31
    go_wp2_with (go_at_call 35; refine (HA.out).mono ?_; rintro e w1 ⟨rfl, hb1⟩)
    try go_wp2_with fail
    go_loopw [5, 18] (fun q i wr => ∃ (r M : Nat) (A : Nat → Int), r ≤ n ∧ i = .int .i64 r ∧ Ints wr q M A ∧ IncN M A ∧ M ≤ r * 12 ∧ (∀ y, HasN M A y → 0 ≤ y ∧ y ≤ 2100000) ∧ (∀ a j, a < r → j < n → HasN M A (F a j)) ∧ Below w1.heap.size w1 wr) (fun _ i _ => n - (intOf i).toNat)
    case atStart => exact ⟨0, 0, fun _ => 0, by omega, rfl, ⟨_, _, rfl, Nat.le_refl _, fun hh => absurd hh (by omega)⟩, fun i j _ hj => absurd hj (by omega), by omega, fun y ⟨i, hi, _⟩ => absurd hi (by omega), fun a j ha => absurd ha (by omega), Below.refl _ _⟩
    case round =>
      obtain ⟨r, M, A, hr, rfl, hq, hinc, hMb, hrg, hall, hb⟩ := hrel
      by_cases hlt : r < n
      · have d0 := up_keep (hb1.trans (hb.mono hb1.size)) (HM.out.row r hlt)
        have HQ := Lib.hid hq
        have HInc := Lib.hid hinc
        have HRg := Lib.hid hrg
        have HAll := Lib.hid hall
        clear hq hinc hrg hall
        go_wp2_with fail
        obtain ⟨w4, rfl⟩ : ∃ W : World, W = wr := ⟨_, rfl⟩
        clear d0
        go_loopw [5, 24] (fun q i wr => ∃ (k M : Nat) (A : Nat → Int), k ≤ n ∧ i = .int .i64 k ∧ Ints wr q M A ∧ IncN M A ∧ M ≤ r * 12 + k ∧ (∀ y, HasN M A y → 0 ≤ y ∧ y ≤ 2100000) ∧ (∀ a j, a < r → j < n → HasN M A (F a j)) ∧ (∀ j, j < k → HasN M A (F r j)) ∧ Below w1.heap.size w1 wr) (fun _ i _ => n - (intOf i).toNat)
        case atStart => exact ⟨0, M, A, by omega, rfl, HQ.out, HInc.out, by omega, HRg.out, HAll.out, fun j hj => absurd hj (by omega), hb⟩
        case round =>
          clear HQ HInc HRg HAll hMb
          obtain ⟨k, M, A, hk, rfl, hq, hinc, hMb, hrg, hall, hrow, hbx⟩ := hrel
          by_cases hkn : k < n
          · have d1 := up_keep (hb1.trans (hbx.mono hb1.size)) (HM.out.at hlt hkn)
            have HPut := Lib.hid (l1Put_g _ M A (F r k) wr hq (by omega) hinc)
            have hfr := HF.out r k hlt hkn
            have HRg := Lib.hid hrg
            have HAll := Lib.hid hall
            have HRow := Lib.hid hrow
            have hk2 : (k : Int) < (n : Int) := by omega
            clear hq hinc hrg hall hrow
            go_wp2_with fail
            refine (HPut.out).mono ?_
            rintro e w2 ⟨q', M', A', rfl, hq', hb2, hM', hinc', hhas⟩
            have HQ' := Lib.hid hq'
            have HInc' := Lib.hid hinc'
            have HHas := Lib.hid hhas
            clear hq' hinc' hhas
            go_wp2_with fail
            go_roundw
            case rel =>
              refine ⟨k + 1, M', A', by omega, by go_num, HQ'.out, HInc'.out, by omega, fun y hy => ?_, fun a j ha hj => (HHas.out _).2 (.inr (HAll.out a j ha hj)), fun j hj => ?_, up_trans hbx hb2⟩
              · rcases (HHas.out y).1 hy with e | hh
                · rw [e]; exact hfr
                · exact HRg.out y hh
              · by_cases e : j = k
                · rw [e]; exact (HHas.out _).2 (.inl rfl)
                · exact (HHas.out _).2 (.inr (HRow.out j (by omega)))
            case measure => simp [intOf]; omega
          · have e : k = n := by omega
            rw [e] at hMb hrow
            have hk2 : ¬ (k : Int) < (n : Int) := by omega
            have HQ := Lib.hid hq
            have HInc := Lib.hid hinc
            have HRg := Lib.hid hrg
            have HAll := Lib.hid hall
            have HRow := Lib.hid hrow
            clear e hkn hq hinc hrg hall hrow
            go_wp2_with fail
            go_roundw
            case rel =>
              refine ⟨r + 1, M, A, by omega, by go_num, HQ.out, HInc.out, by omega, HRg.out, fun a j ha hj => ?_, hbx⟩
              by_cases e : a = r
              · rw [e]; exact HRow.out j hj
              · exact HAll.out a j (by omega) hj
            case measure => simp [intOf]; omega
      · have e : r = n := by omega
        rw [e] at hall
        have hMb2 : M ≤ 144 := by omega
        obtain ⟨idx, hidx, hval⟩ : HasN M A (lgV n F) := by
          obtain ⟨i, k, hi, hk, e⟩ := HEn.out
          rw [← e]; exact hall i k hi hk
        have HIdx := Lib.hid hval
        have hk2 : ¬ (r : Int) < (n : Int) := by omega
        obtain ⟨Aq, cq, rfl, _⟩ := hq.shape
        have HQ := Lib.hid hq
        have HInc := Lib.hid hinc
        have HRg := Lib.hid (fun i (hi : i < M) => hrg (A i) ⟨i, hi, rfl⟩)
        clear e hlt hall hrg hinc hq hval hMb
        have hw1 := hb1.trans (hb.mono hb1.size)
        go_wp2_with fail
        obtain ⟨w4, rfl⟩ : ∃ W : World, W = wr := ⟨_, rfl⟩
        go_loopw [10, 11] (fun l hh wr => ∃ lo hi : Nat, l = .int .i64 lo ∧ hh = .int .i64 hi ∧ lo ≤ idx ∧ idx ≤ hi ∧ hi < M ∧ Below w4.heap.size w4 wr) (fun l hh _ => (intOf hh - intOf l).toNat)
        case atStart => exact ⟨0, M - 1, rfl, congrArg (Value.int .i64) (by omega), by omega, by omega, by omega, Below.refl _ _⟩
        case round =>
          obtain ⟨lo, hi, rfl, rfl, h1, h2, h3, hbx⟩ := hrel
          have hww := hw1.trans (hbx.mono hw1.size)
          obtain ⟨bq, oq, e, hrow⟩ : ∃ bq oq, Aq = some ⟨bq, oq, none⟩ ∧ Row1 w4 bq oq M A := by
            obtain ⟨A', c', e', _, hrr⟩ := HQ.out
            obtain ⟨b', o', e2, h⟩ := hrr (by omega)
            cases e'
            exact ⟨b', o', e2, h⟩
          subst e
          by_cases hlt : lo < hi
          · obtain ⟨mid, hmid⟩ : ∃ mid, (lo + hi) / 2 = mid := ⟨_, rfl⟩
            have hm1 : lo ≤ mid := by omega
            have hm2 : mid < hi := by omega
            have hm3 : mid < M := by omega
            have hq2 : Int.tdiv ((lo : Int) + (hi : Int)) 2 = (mid : Int) := by rw [Int.tdiv_eq_ediv_of_nonneg (by omega)]; omega
            have c0 := up_keep hbx (hrow mid hm3)
            have j1 : (mid : Int) < (M : Int) := by omega
            have j2 : (lo : Int) < (hi : Int) := by omega
            have HC := Lib.hid (HWi.out wr (A mid) hww (HRg.out mid hm3))
            obtain ⟨L, hL⟩ : ∃ L, (if lgV n F ≤ A mid then n else 0) = L := ⟨_, rfl⟩
            rw [hL] at HC
            have HL := Lib.hid hL
            clear hL hmid
            by_cases hle : lgV n F ≤ A mid
            · have HLn := Lib.hid (show L = n by rw [← HL.out, if_pos hle])
              have him : idx ≤ mid := by
                rcases Nat.lt_or_ge mid idx with hh | hh
                · have := HInc.out mid idx hh hidx
                  rw [HIdx.out] at this
                  omega
                · exact hh
              have HIm := Lib.hid him
              have hlp : 0 < L := by have := HLn.out; omega
              clear hle him
              go_wp2_with fail
              refine (HC.out).mono ?_
              rintro e w2 ⟨q2, rfl, hq2', hb2⟩
              obtain ⟨a3, c3, rfl, _⟩ := hq2'.shape
              go_wp2_with fail
              go_roundw
              case rel => exact ⟨lo, mid, rfl, rfl, h1, HIm.out, hm3, up_trans hbx hb2⟩
              case measure => simp [intOf]; omega
            · have HLn := Lib.hid (show L = 0 by rw [← HL.out, if_neg hle])
              have him : mid < idx := by
                rcases Nat.lt_or_ge mid idx with hh | hh
                · exact hh
                · have := HInc.out.le hh hm3
                  rw [HIdx.out] at this
                  omega
              have HIm := Lib.hid him
              have hlp : ¬ 0 < L := by have := HLn.out; omega
              clear hle him
              go_wp2_with fail
              refine (HC.out).mono ?_
              rintro e w2 ⟨q2, rfl, hq2', hb2⟩
              obtain ⟨a3, c3, rfl, _⟩ := hq2'.shape
              go_wp2_with fail
              go_roundw
              case rel => exact ⟨mid + 1, hi, by go_num, rfl, HIm.out, h2, h3, up_trans hbx hb2⟩
              case measure => simp [intOf]; omega
          · have e1 : lo = idx := by omega
            have c0 := up_keep hbx (hrow idx hidx)
            rw [HIdx.out] at c0
            subst e1
            have j1 : (lo : Int) < (M : Int) := by omega
            have j2 : ¬ (lo : Int) < (hi : Int) := by omega
            have HC := Lib.hid (fun W (hW : Below w.heap.size w W) => by
              have := HWi.out W (lgV n F) hW (by have := HRg.out lo hidx; rw [HIdx.out] at this; exact this)
              rw [if_pos (Int.le_refl _)] at this
              exact (show Calls Try.prog 58 #[.slice (some ⟨b, o, none⟩) n c, .int .i64 (lgV n F)] W (AnsI W n (lgP n F)) from this))
            have hsz := hww.size
            clear hlt
            go_wp2_with fail
            go_region_held3 (fun w' => w'.cell? ⟨bq, oq + lo, none⟩ = some (.int .i64 (lgV n F)))
              (first | exact ⟨by assumption⟩ | assumption | go_keep)
              (first | (go_at_call 58; (with_reducible refine (HC.out _ (up_trans hww (by (repeat (first | with_reducible exact Below.refl _ _ | with_reducible assumption | with_reducible refine up_alloc ?_ _ | with_reducible refine up_drew ?_ | with_reducible refine up_drewN ?_ _ | (with_reducible refine up_set ?_ ?hset _; case hset => first | (simp; done) | (simp; omega) | omega) | with_reducible refine up_trans ?_ (by with_reducible assumption)))))).mono ?_); rintro e w2 ⟨q2, rfl, hq2', hb2⟩; have y0 := up_keep (show Below wr.heap.size wr w2 from (by (repeat (first | with_reducible exact Below.refl _ _ | with_reducible assumption | with_reducible refine up_alloc ?_ _ | with_reducible refine up_drew ?_ | with_reducible refine up_drewN ?_ _ | (with_reducible refine up_set ?_ ?hset _; case hset => first | (simp; done) | (simp; omega) | omega) | with_reducible refine up_trans ?_ (by with_reducible assumption))))) c0; have hbz := up_trans hww (show Below wr.heap.size wr w2 from (by (repeat (first | with_reducible exact Below.refl _ _ | with_reducible assumption | with_reducible refine up_alloc ?_ _ | with_reducible refine up_drew ?_ | with_reducible refine up_drewN ?_ _ | (with_reducible refine up_set ?_ ?hset _; case hset => first | (simp; done) | (simp; omega) | omega) | with_reducible refine up_trans ?_ (by with_reducible assumption)))))))
            all_goals (
              go_wp2_with fail
              go_ret3
              exact ⟨_, rfl, (hq2'.up (by (repeat (first | with_reducible exact Below.refl _ _ | with_reducible assumption | with_reducible refine up_alloc ?_ _ | with_reducible refine up_drew ?_ | with_reducible refine up_drewN ?_ _ | (with_reducible refine up_set ?_ ?hset _; case hset => first | (simp; done) | (simp; omega) | omega) | with_reducible refine up_trans ?_ (by with_reducible assumption))))).more (by first | omega | exact hww.size), up_trans hbz (by (repeat (first | with_reducible exact Below.refl _ _ | with_reducible assumption | with_reducible refine up_alloc ?_ _ | with_reducible refine up_drew ?_ | with_reducible refine up_drewN ?_ _ | (with_reducible refine up_set ?_ ?hset _; case hset => first | (simp; done) | (simp; omega) | omega) | with_reducible refine up_trans ?_ (by with_reducible assumption))))⟩)
end Go.Proofs.Ytadlemadnifohaa
