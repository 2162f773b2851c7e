/-
  The reference reads a spot: where both pieces are numbers.
-/
import Derived.Test.YtbfhfjpfjkdcfaaDoorRows
import Derived.Test.YtbfhfjpfjkdcfaaDoorBase
import Derived.Test.YtbfhfjpfjkdcfaaDoorSpot
import Derived.Test.YtbfhfjpfjkdcfaaDoorSlice
import Derived.Test.YtbfhfjpfjkdcfaaDoorTxtP
import Derived.Test.YtbfhfjpfjkdcfaaDoorTxtM
import Derived.Test.YtbfhfjpfjkdcfaaDoorPrsP
import Derived.Test.YtbfhfjpfjkdcfaaDoorPrsN
import Derived.Test.YtbfhfjpfjkdcfaaDoorPrsS
import Derived.Test.YtbfhfjpfjkdcfaaDoorPrsR
import Derived.Test.YtbfhfjpfjkdcfaaDoorPrsI
import Derived.Test.YtbfhfjpfjkdcfaaDoorPrsT
import Derived.Test.YtbfhfjpfjkdcfaaDoorPrsU
import Derived.Test.YtbfhfjpfjkdcfaaDoorPrsV
import Derived.Deep.RegionHeld3
import Derived.Deep.RegionWith
import Derived.Deep.CutRange
import Derived.Deep.DeepCutAuto
namespace Go.Proofs.YtbfhfjpfjkdcfaaDoor
open Go.RowKit Go.ChangeShapes Go.WideShapes Go.Sort Go.Proofs

theorem free_new (w : World) (a b : Value) (t : TypeId) : ∀ o, (w.alloc (.cells #[a, b] t)).frozen? ⟨w.heap.size, o, none⟩ = false := fun o => by simp [go_sem]
theorem free_up {w w' : World} {b : Nat} (h : ∀ o, w.frozen? ⟨b, o, none⟩ = false) {u : Value} {k : Nat} (hlt : w.cell? ⟨b, k, none⟩ = some u) (hb : Below w.heap.size w w') : ∀ o, w'.frozen? ⟨b, o, none⟩ = false :=
  Free.up (b := b) h (lt_of_cell hlt) hb
theorem new_drew {w w' : World} {a b : Value} {t : TypeId} (hb : Below (w.alloc (.cells #[a, b] t)).drew.heap.size (w.alloc (.cells #[a, b] t)).drew w') :
    w'.cell? ⟨w.heap.size, 0, none⟩ = some a ∧ w'.cell? ⟨w.heap.size, 1, none⟩ = some b ∧ ∀ o, w'.frozen? ⟨w.heap.size, o, none⟩ = false :=
  ⟨up_keep hb (cell_new2 w a b t).1, up_keep hb (cell_new2 w a b t).2, free_up (w := (w.alloc (.cells #[a, b] t)).drew) (free_new w a b t) (cell_new2 w a b t).1 hb⟩
theorem put_two {w : World} {g : Nat} {a b : Value} {c d : Value} (h0 : w.cell? ⟨g, 0, none⟩ = some a) (h1 : w.cell? ⟨g, 1, none⟩ = some b) :
    ((w.setCell ⟨g, 0, none⟩ c).setCell ⟨g, 1, none⟩ d).cell? ⟨g, 0, none⟩ = some c ∧ ((w.setCell ⟨g, 0, none⟩ c).setCell ⟨g, 1, none⟩ d).cell? ⟨g, 1, none⟩ = some d :=
  ⟨by rw [cell_set_ne _ _ _ _ _ _ (.inr (by omega))]; exact cell_set_same _ _ _ _ _ h0, cell_set_same _ _ _ _ _ (by rw [cell_set_ne _ _ _ _ _ _ (.inr (by omega))]; exact h1)⟩
set_option maxRecDepth 100000 in
set_option maxHeartbeats 4000000 in
theorem stParse_nospot (l p q : List UInt8) (w : World) (hl : l.length ≤ 1048576) (hs2 : splitL 44 l = [p, q]) (hc : cut1 44 l = some (p, q)) (x y : Nat) (hp : rdL 6 p = some x) (hq : rdL 6 q = some y) (hxy : ¬ (x ≤ 1280 ∧ y ≤ 672)) : Calls Tryd.prog 25 #[.string (bS l)] w (Ans w (spW (spP 6 l))) := by
  have hll : p.length ≤ 1048576 ∧ q.length ≤ 1048576 := by
    have := congrArg List.length (cut1_some.1 hc).1
    simp at this
    omega
  have HS := Lib.hid (fun W => l1Split_s l 44 W hl)
  have HP := Lib.hid (fun W => stRead_s p W hll.1)
  have HQ := Lib.hid (fun W => stRead_s q W hll.2)
  rw [hp, show rdV (some x) = (x : Int) from rfl] at HP
  rw [hq, show rdV (some y) = (y : Int) from rfl] at HQ
  have jx : 0 ≤ (x : Int) := by omega
  have jy : 0 ≤ (y : Int) := by omega
  have HD := Lib.hid (show spW (spP 6 l) = .tuple #[.agg #[.int .i64 0, .int .i64 0], .bool false] by unfold spP; rw [hc]; simp only; rw [hp, hq]; simp only; rw [if_neg hxy]; rfl)
  have HI := Lib.hid (fun W => stIf_s (x : Int) (y : Int) W)
  rw [show ifV (x : Int) (y : Int) = .tuple #[.agg #[.int .i64 0, .int .i64 0], .bool false] by
    unfold ifV
    rw [if_neg]
    intro h
    have := spotB_iff.1 h
    exact hxy (by omega)] at HI
  have HN := Lib.hid hs2
  clear hs2 hc hp hq hll hxy
  go_enter Tryd.func25, Tryd.ntmps25
  have g0 := (cell_new2 w (.int .i64 0) (.int .i64 0) 38).1
  have g1 := (cell_new2 w (.int .i64 0) (.int .i64 0) 38).2
  go_wp2_with (go_at_call 24; refine (HS.out _).mono ?_)
  rintro e w1 ⟨v, rfl, hs, hb1⟩
  rw [HN.out] at hs
  obtain ⟨b, o, c, rfl, hc1, hx, hy⟩ := hs.two
  clear hs
  go_wp2_with (go_at_call 38; (with_reducible show Calls Tryd.prog _ #[.string (bS p)] _ _); refine (HP.out _).mono ?_)
  rintro e w3 ⟨rfl, hb3⟩
  have hx3 := up_keep hb3 hx
  have hy3 := up_keep hb3 hy
  go_wp2_with (go_at_call 38; (with_reducible show Calls Tryd.prog _ #[.string (bS q)] _ _); refine (HQ.out _).mono ?_)
  rintro e w2 ⟨rfl, hb2⟩
  have hb0 := up_trans (up_trans hb1 hb3) hb2
  have hx2 := up_keep hb2 hx3
  have hy2 := up_keep hb2 hy3
  have q0 := up_keep hb0 g0
  have q1 := up_keep hb0 g1
  have hbw0 := hb0
  have hbw : Below w.heap.size w w2 := by (repeat (first | with_reducible exact Below.refl _ _ | with_reducible assumption | with_reducible refine up_alloc ?_ _ | with_reducible refine up_drew ?_ | with_reducible refine up_drewN ?_ _ | (with_reducible refine up_set ?_ ?hset _; case hset => first | (simp; done) | (simp; omega) | omega) | with_reducible refine up_trans ?_ (by with_reducible assumption)))
  clear hx hy hx3 hy3 hb1 hb2 hb3 hb0 g0 g1
  go_upto_region 4 with fail
  go_cut [5, 6] (fun s t wx => ∃ g : Nat, s = .pointer (some ⟨g, 0, none⟩) ∧ t = .bool false ∧ Below w2.heap.size w2 wx)
  case first =>
    go_region_held3 (fun w' => w'.cell? ⟨b, o, none⟩ = some (.string (bS p)) ∧ w'.cell? ⟨b, o + 1, none⟩ = some (.string (bS q))) (first | exact ⟨by assumption, by assumption⟩ | go_keep | exact ⟨up_keep (show Below w2.heap.size w2 _ from (by (repeat (first | with_reducible exact Below.refl _ _ | with_reducible assumption | with_reducible refine up_alloc ?_ _ | with_reducible refine up_drew ?_ | with_reducible refine up_drewN ?_ _ | (with_reducible refine up_set ?_ ?hset _; case hset => first | (simp; done) | (simp; omega) | omega) | with_reducible refine up_trans ?_ (by with_reducible assumption))))) hx2, up_keep (show Below w2.heap.size w2 _ from (by (repeat (first | with_reducible exact Below.refl _ _ | with_reducible assumption | with_reducible refine up_alloc ?_ _ | with_reducible refine up_drew ?_ | with_reducible refine up_drewN ?_ _ | (with_reducible refine up_set ?_ ?hset _; case hset => first | (simp; done) | (simp; omega) | omega) | with_reducible refine up_trans ?_ (by with_reducible assumption))))) hy2⟩) (first
      | (go_at_call 38; (with_reducible show Calls Tryd.prog _ #[.string (bS p)] _ _); (with_reducible refine (HP.out _).mono ?_); rintro e wa ⟨rfl, hba⟩; have hza := (show Below w2.heap.size w2 wa from (by (repeat (first | with_reducible exact Below.refl _ _ | with_reducible assumption | with_reducible refine up_alloc ?_ _ | with_reducible refine up_drew ?_ | with_reducible refine up_drewN ?_ _ | (with_reducible refine up_set ?_ ?hset _; case hset => first | (simp; done) | (simp; omega) | omega) | with_reducible refine up_trans ?_ (by with_reducible assumption))))).size; have ya0 := up_keep (show Below w2.heap.size w2 wa from (by (repeat (first | with_reducible exact Below.refl _ _ | with_reducible assumption | with_reducible refine up_alloc ?_ _ | with_reducible refine up_drew ?_ | with_reducible refine up_drewN ?_ _ | (with_reducible refine up_set ?_ ?hset _; case hset => first | (simp; done) | (simp; omega) | omega) | with_reducible refine up_trans ?_ (by with_reducible assumption))))) hx2; have ya1 := up_keep (show Below w2.heap.size w2 wa from (by (repeat (first | with_reducible exact Below.refl _ _ | with_reducible assumption | with_reducible refine up_alloc ?_ _ | with_reducible refine up_drew ?_ | with_reducible refine up_drewN ?_ _ | (with_reducible refine up_set ?_ ?hset _; case hset => first | (simp; done) | (simp; omega) | omega) | with_reducible refine up_trans ?_ (by with_reducible assumption))))) hy2; (try (have hnd := new_drew hba; have za0 := hnd.1; have za1 := hnd.2.1; have zaf := hnd.2.2)))
      | (go_at_call 38; (with_reducible show Calls Tryd.prog _ #[.string (bS q)] _ _); (with_reducible refine (HQ.out _).mono ?_); rintro e wb ⟨rfl, hbb⟩; have hzb := (show Below w2.heap.size w2 wb from (by (repeat (first | with_reducible exact Below.refl _ _ | with_reducible assumption | with_reducible refine up_alloc ?_ _ | with_reducible refine up_drew ?_ | with_reducible refine up_drewN ?_ _ | (with_reducible refine up_set ?_ ?hset _; case hset => first | (simp; done) | (simp; omega) | omega) | with_reducible refine up_trans ?_ (by with_reducible assumption))))).size; have yb0 := up_keep (show Below w2.heap.size w2 wb from (by (repeat (first | with_reducible exact Below.refl _ _ | with_reducible assumption | with_reducible refine up_alloc ?_ _ | with_reducible refine up_drew ?_ | with_reducible refine up_drewN ?_ _ | (with_reducible refine up_set ?_ ?hset _; case hset => first | (simp; done) | (simp; omega) | omega) | with_reducible refine up_trans ?_ (by with_reducible assumption))))) hx2; have yb1 := up_keep (show Below w2.heap.size w2 wb from (by (repeat (first | with_reducible exact Below.refl _ _ | with_reducible assumption | with_reducible refine up_alloc ?_ _ | with_reducible refine up_drew ?_ | with_reducible refine up_drewN ?_ _ | (with_reducible refine up_set ?_ ?hset _; case hset => first | (simp; done) | (simp; omega) | omega) | with_reducible refine up_trans ?_ (by with_reducible assumption))))) hy2; (try (have zb0 := up_keep hbb (cell_new2 wa (.int .i64 0) (.int .i64 0) 38).1; have zb1 := up_keep hbb (cell_new2 wa (.int .i64 0) (.int .i64 0) 38).2; have zbf := free_up (free_new wa (.int .i64 0) (.int .i64 0) 38) (cell_new2 wa (.int .i64 0) (.int .i64 0) 38).1 hbb)); (try (have zb0 := up_keep hbb za0; have zb1 := up_keep hbb za1; have zbf := free_up zaf za0 hbb)))
      | (go_at_call 39; (with_reducible refine (HI.out _).mono ?_); rintro e wd ⟨rfl, hbd⟩; have hzd := (show Below w2.heap.size w2 wd from (by (repeat (first | with_reducible exact Below.refl _ _ | with_reducible assumption | with_reducible refine up_alloc ?_ _ | with_reducible refine up_drew ?_ | with_reducible refine up_drewN ?_ _ | (with_reducible refine up_set ?_ ?hset _; case hset => first | (simp; done) | (simp; omega) | omega) | with_reducible refine up_trans ?_ (by with_reducible assumption))))).size; have yd0 := up_keep (show Below w2.heap.size w2 wd from (by (repeat (first | with_reducible exact Below.refl _ _ | with_reducible assumption | with_reducible refine up_alloc ?_ _ | with_reducible refine up_drew ?_ | with_reducible refine up_drewN ?_ _ | (with_reducible refine up_set ?_ ?hset _; case hset => first | (simp; done) | (simp; omega) | omega) | with_reducible refine up_trans ?_ (by with_reducible assumption))))) hx2; have yd1 := up_keep (show Below w2.heap.size w2 wd from (by (repeat (first | with_reducible exact Below.refl _ _ | with_reducible assumption | with_reducible refine up_alloc ?_ _ | with_reducible refine up_drew ?_ | with_reducible refine up_drewN ?_ _ | (with_reducible refine up_set ?_ ?hset _; case hset => first | (simp; done) | (simp; omega) | omega) | with_reducible refine up_trans ?_ (by with_reducible assumption))))) hy2; (try (have zd0 := up_keep hbd (cell_new2 wb (.int .i64 0) (.int .i64 0) 38).1; have zd1 := up_keep hbd (cell_new2 wb (.int .i64 0) (.int .i64 0) 38).2; have zdf := free_up (free_new wb (.int .i64 0) (.int .i64 0) 38) (cell_new2 wb (.int .i64 0) (.int .i64 0) 38).1 hbd)); (try (have zd0 := up_keep hbd zb0; have zd1 := up_keep hbd zb1; have zdf := free_up zbf zb0 hbd)))
      | fail)
    all_goals
      go_wp2_with fail
      go_meet
      exact ⟨_, rfl, rfl, by (repeat (first | with_reducible exact Below.refl _ _ | with_reducible assumption | with_reducible refine up_alloc ?_ _ | with_reducible refine up_drew ?_ | with_reducible refine up_drewN ?_ _ | (with_reducible refine up_set ?_ ?hset _; case hset => first | (simp; done) | (simp; omega) | omega) | with_reducible refine up_trans ?_ (by with_reducible assumption)))⟩
  case rest =>
    obtain ⟨g, rfl, rfl, hbc⟩ := hcut
    have hz1 := lt_of_cell q0
    have hz2 := hbc.size
    obtain ⟨hc0, hf0⟩ := bcell (up_trans hbw0 hbc)
    replace q0 := up_keep hbc q0
    replace q1 := up_keep hbc q1
    have hz3 : w.heap.size < wc.heap.size := by omega
    have r0 : ((wc.setCell ⟨w.heap.size, 0, none⟩ (.int .i64 0)).setCell ⟨w.heap.size, 1, none⟩ (.int .i64 0)).cell? ⟨w.heap.size, 0, none⟩ = some (.int .i64 0) := by
      rw [cell_set_ne _ _ _ _ _ _ (.inr (by omega))]; exact cell_set_same _ _ _ _ _ q0
    have r1 : ((wc.setCell ⟨w.heap.size, 0, none⟩ (.int .i64 0)).setCell ⟨w.heap.size, 1, none⟩ (.int .i64 0)).cell? ⟨w.heap.size, 1, none⟩ = some (.int .i64 0) :=
      cell_set_same _ _ _ _ _ (by rw [cell_set_ne _ _ _ _ _ _ (.inr (by omega))]; exact q1)
    go_wp2_with fail
    refine bodyPost_ret (v := .tuple #[.agg #[.int .i64 0, .int .i64 0], .bool false]) (by simp [results, Tryd.results25, go_sem, *]) rfl ?_
    rw [HD.out]
    exact ⟨rfl, by (repeat (first | with_reducible exact Below.refl _ _ | with_reducible assumption | with_reducible refine up_alloc ?_ _ | with_reducible refine up_drew ?_ | with_reducible refine up_drewN ?_ _ | (with_reducible refine up_set ?_ ?hset _; case hset => first | (simp; done) | (simp; omega) | omega) | with_reducible refine up_trans ?_ (by with_reducible assumption)))⟩
set_option maxRecDepth 100000 in
set_option maxHeartbeats 4000000 in
theorem stParse_spot (l p q : List UInt8) (w : World) (hl : l.length ≤ 1048576) (hs2 : splitL 44 l = [p, q]) (hc : cut1 44 l = some (p, q)) (x y : Nat) (hp : rdL 6 p = some x) (hq : rdL 6 q = some y) (hxy : x ≤ 1280 ∧ y ≤ 672) : Calls Tryd.prog 25 #[.string (bS l)] w (Ans w (spW (spP 6 l))) := by
  have hl6 : spP 6 l = some (x, y) := by unfold spP; rw [hc]; simp only; rw [hp, hq]; simp only; rw [if_pos hxy]
  obtain rfl : l = spL x y := ((spP_iff (by omega)).1 hl6).2
  have hll : p.length ≤ 1048576 ∧ q.length ≤ 1048576 := by
    have := congrArg List.length (cut1_some.1 hc).1
    simp at this
    omega
  have HS := Lib.hid (fun W => l1Split_s (spL x y) 44 W hl)
  have HP := Lib.hid (fun W => stRead_s p W hll.1)
  have HQ := Lib.hid (fun W => stRead_s q W hll.2)
  rw [hp, show rdV (some x) = (x : Int) from rfl] at HP
  rw [hq, show rdV (some y) = (y : Int) from rfl] at HQ
  have jx : 0 ≤ (x : Int) := by omega
  have jy : 0 ≤ (y : Int) := by omega
  have HT := Lib.hid (fun W => stText_s x y hxy.1 (by omega) W)
  have HD := Lib.hid (show spW (spP 6 (spL x y)) = .tuple #[.agg #[.int .i64 (x : Int), .int .i64 (y : Int)], .bool true] by rw [hl6]; rfl)
  clear hl6
  have HI := Lib.hid (fun W => stIf_s (x : Int) (y : Int) W)
  rw [show ifV (x : Int) (y : Int) = .tuple #[.agg #[.int .i64 (x : Int), .int .i64 (y : Int)], .bool true] by
    unfold ifV
    rw [if_pos]
    exact spotB_iff.2 ⟨⟨by omega, by omega⟩, by omega, by omega⟩] at HI
  have HN := Lib.hid hs2
  clear hs2 hc hp hq hll hxy
  go_enter Tryd.func25, Tryd.ntmps25
  have g0 := (cell_new2 w (.int .i64 0) (.int .i64 0) 38).1
  have g1 := (cell_new2 w (.int .i64 0) (.int .i64 0) 38).2
  go_wp2_with (go_at_call 24; refine (HS.out _).mono ?_)
  rintro e w1 ⟨v, rfl, hs, hb1⟩
  rw [HN.out] at hs
  obtain ⟨b, o, c, rfl, hc1, hx, hy⟩ := hs.two
  clear hs
  go_wp2_with (go_at_call 38; (with_reducible show Calls Tryd.prog _ #[.string (bS p)] _ _); refine (HP.out _).mono ?_)
  rintro e w3 ⟨rfl, hb3⟩
  have hx3 := up_keep hb3 hx
  have hy3 := up_keep hb3 hy
  go_wp2_with (go_at_call 38; (with_reducible show Calls Tryd.prog _ #[.string (bS q)] _ _); refine (HQ.out _).mono ?_)
  rintro e w2 ⟨rfl, hb2⟩
  have hb0 := up_trans (up_trans hb1 hb3) hb2
  have hx2 := up_keep hb2 hx3
  have hy2 := up_keep hb2 hy3
  have q0 := up_keep hb0 g0
  have q1 := up_keep hb0 g1
  have hbw0 := hb0
  have hbw : Below w.heap.size w w2 := by (repeat (first | with_reducible exact Below.refl _ _ | with_reducible assumption | with_reducible refine up_alloc ?_ _ | with_reducible refine up_drew ?_ | with_reducible refine up_drewN ?_ _ | (with_reducible refine up_set ?_ ?hset _; case hset => first | (simp; done) | (simp; omega) | omega) | with_reducible refine up_trans ?_ (by with_reducible assumption)))
  clear hx hy hx3 hy3 hb1 hb2 hb3 hb0 g0 g1
  go_upto_region 4 with fail
  go_cut [5, 6] (fun s t wx => ∃ g : Nat, s = .pointer (some ⟨g, 0, none⟩) ∧ t = .bool true ∧ w2.heap.size ≤ g ∧ wx.cell? ⟨g, 0, none⟩ = some (.int .i64 (x : Int)) ∧ wx.cell? ⟨g, 1, none⟩ = some (.int .i64 (y : Int)) ∧ Below w2.heap.size w2 wx)
  case first =>
    go_region_held3 (fun w' => w'.cell? ⟨b, o, none⟩ = some (.string (bS p)) ∧ w'.cell? ⟨b, o + 1, none⟩ = some (.string (bS q))) (first | exact ⟨by assumption, by assumption⟩ | go_keep | exact ⟨up_keep (show Below w2.heap.size w2 _ from (by (repeat (first | with_reducible exact Below.refl _ _ | with_reducible assumption | with_reducible refine up_alloc ?_ _ | with_reducible refine up_drew ?_ | with_reducible refine up_drewN ?_ _ | (with_reducible refine up_set ?_ ?hset _; case hset => first | (simp; done) | (simp; omega) | omega) | with_reducible refine up_trans ?_ (by with_reducible assumption))))) hx2, up_keep (show Below w2.heap.size w2 _ from (by (repeat (first | with_reducible exact Below.refl _ _ | with_reducible assumption | with_reducible refine up_alloc ?_ _ | with_reducible refine up_drew ?_ | with_reducible refine up_drewN ?_ _ | (with_reducible refine up_set ?_ ?hset _; case hset => first | (simp; done) | (simp; omega) | omega) | with_reducible refine up_trans ?_ (by with_reducible assumption))))) hy2⟩) (first
      | (go_at_call 38; (with_reducible show Calls Tryd.prog _ #[.string (bS p)] _ _); (with_reducible refine (HP.out _).mono ?_); rintro e wa ⟨rfl, hba⟩; have hza := (show Below w2.heap.size w2 wa from (by (repeat (first | with_reducible exact Below.refl _ _ | with_reducible assumption | with_reducible refine up_alloc ?_ _ | with_reducible refine up_drew ?_ | with_reducible refine up_drewN ?_ _ | (with_reducible refine up_set ?_ ?hset _; case hset => first | (simp; done) | (simp; omega) | omega) | with_reducible refine up_trans ?_ (by with_reducible assumption))))).size; have ya0 := up_keep (show Below w2.heap.size w2 wa from (by (repeat (first | with_reducible exact Below.refl _ _ | with_reducible assumption | with_reducible refine up_alloc ?_ _ | with_reducible refine up_drew ?_ | with_reducible refine up_drewN ?_ _ | (with_reducible refine up_set ?_ ?hset _; case hset => first | (simp; done) | (simp; omega) | omega) | with_reducible refine up_trans ?_ (by with_reducible assumption))))) hx2; have ya1 := up_keep (show Below w2.heap.size w2 wa from (by (repeat (first | with_reducible exact Below.refl _ _ | with_reducible assumption | with_reducible refine up_alloc ?_ _ | with_reducible refine up_drew ?_ | with_reducible refine up_drewN ?_ _ | (with_reducible refine up_set ?_ ?hset _; case hset => first | (simp; done) | (simp; omega) | omega) | with_reducible refine up_trans ?_ (by with_reducible assumption))))) hy2; (try (have hnd := new_drew hba; have za0 := hnd.1; have za1 := hnd.2.1; have zaf := hnd.2.2)))
      | (go_at_call 38; (with_reducible show Calls Tryd.prog _ #[.string (bS q)] _ _); (with_reducible refine (HQ.out _).mono ?_); rintro e wb ⟨rfl, hbb⟩; have hzb := (show Below w2.heap.size w2 wb from (by (repeat (first | with_reducible exact Below.refl _ _ | with_reducible assumption | with_reducible refine up_alloc ?_ _ | with_reducible refine up_drew ?_ | with_reducible refine up_drewN ?_ _ | (with_reducible refine up_set ?_ ?hset _; case hset => first | (simp; done) | (simp; omega) | omega) | with_reducible refine up_trans ?_ (by with_reducible assumption))))).size; have yb0 := up_keep (show Below w2.heap.size w2 wb from (by (repeat (first | with_reducible exact Below.refl _ _ | with_reducible assumption | with_reducible refine up_alloc ?_ _ | with_reducible refine up_drew ?_ | with_reducible refine up_drewN ?_ _ | (with_reducible refine up_set ?_ ?hset _; case hset => first | (simp; done) | (simp; omega) | omega) | with_reducible refine up_trans ?_ (by with_reducible assumption))))) hx2; have yb1 := up_keep (show Below w2.heap.size w2 wb from (by (repeat (first | with_reducible exact Below.refl _ _ | with_reducible assumption | with_reducible refine up_alloc ?_ _ | with_reducible refine up_drew ?_ | with_reducible refine up_drewN ?_ _ | (with_reducible refine up_set ?_ ?hset _; case hset => first | (simp; done) | (simp; omega) | omega) | with_reducible refine up_trans ?_ (by with_reducible assumption))))) hy2; (try (have zb0 := up_keep hbb (cell_new2 wa (.int .i64 0) (.int .i64 0) 38).1; have zb1 := up_keep hbb (cell_new2 wa (.int .i64 0) (.int .i64 0) 38).2; have zbf := free_up (free_new wa (.int .i64 0) (.int .i64 0) 38) (cell_new2 wa (.int .i64 0) (.int .i64 0) 38).1 hbb)); (try (have zb0 := up_keep hbb za0; have zb1 := up_keep hbb za1; have zbf := free_up zaf za0 hbb)))
      | (go_at_call 39; (with_reducible refine (HI.out _).mono ?_); rintro e wd ⟨rfl, hbd⟩; have hzd := (show Below w2.heap.size w2 wd from (by (repeat (first | with_reducible exact Below.refl _ _ | with_reducible assumption | with_reducible refine up_alloc ?_ _ | with_reducible refine up_drew ?_ | with_reducible refine up_drewN ?_ _ | (with_reducible refine up_set ?_ ?hset _; case hset => first | (simp; done) | (simp; omega) | omega) | with_reducible refine up_trans ?_ (by with_reducible assumption))))).size; have yd0 := up_keep (show Below w2.heap.size w2 wd from (by (repeat (first | with_reducible exact Below.refl _ _ | with_reducible assumption | with_reducible refine up_alloc ?_ _ | with_reducible refine up_drew ?_ | with_reducible refine up_drewN ?_ _ | (with_reducible refine up_set ?_ ?hset _; case hset => first | (simp; done) | (simp; omega) | omega) | with_reducible refine up_trans ?_ (by with_reducible assumption))))) hx2; have yd1 := up_keep (show Below w2.heap.size w2 wd from (by (repeat (first | with_reducible exact Below.refl _ _ | with_reducible assumption | with_reducible refine up_alloc ?_ _ | with_reducible refine up_drew ?_ | with_reducible refine up_drewN ?_ _ | (with_reducible refine up_set ?_ ?hset _; case hset => first | (simp; done) | (simp; omega) | omega) | with_reducible refine up_trans ?_ (by with_reducible assumption))))) hy2; (try (have zd0 := up_keep hbd (cell_new2 wb (.int .i64 0) (.int .i64 0) 38).1; have zd1 := up_keep hbd (cell_new2 wb (.int .i64 0) (.int .i64 0) 38).2; have zdf := free_up (free_new wb (.int .i64 0) (.int .i64 0) 38) (cell_new2 wb (.int .i64 0) (.int .i64 0) 38).1 hbd)); (try (have zd0 := up_keep hbd zb0; have zd1 := up_keep hbd zb1; have zdf := free_up zbf zb0 hbd)))
      | fail)
    all_goals
      go_wp2_with fail
      go_meet
      exact ⟨_, rfl, rfl, by first | omega | (simp; omega), by first | exact (put_two (by assumption) (by assumption)).1 | simp [go_sem], by first | exact (put_two (by assumption) (by assumption)).2 | simp [go_sem], by (repeat (first | with_reducible exact Below.refl _ _ | with_reducible assumption | with_reducible refine up_alloc ?_ _ | with_reducible refine up_drew ?_ | with_reducible refine up_drewN ?_ _ | (with_reducible refine up_set ?_ ?hset _; case hset => first | (simp; done) | (simp; omega) | omega) | with_reducible refine up_trans ?_ (by with_reducible assumption)))⟩
  case rest =>
    obtain ⟨g, rfl, rfl, hgz, e0, e1, hbc⟩ := hcut
    have hz1 := lt_of_cell q0
    have hz2 := hbc.size
    have hbw1 := up_trans hbw0 hbc
    replace q0 := up_keep hbc q0
    replace q1 := up_keep hbc q1
    have hz3 : w.heap.size < wc.heap.size := by omega
    clear hx2 hy2 hbw0
    go_wp2_with (go_at_call 32; refine (HT.out _).mono ?_)
    rintro e w4 ⟨rfl, hb4⟩
    replace e0 := up_keep hb4 e0
    replace e1 := up_keep hb4 e1
    replace q0 := up_keep hb4 q0
    replace q1 := up_keep hb4 q1
    have hb5 := up_trans hbw1 hb4
    obtain ⟨hc0, hf0⟩ := bcell hb5
    have hz4 : w.heap.size < w4.heap.size := by have := hb4.size; omega
    have r0 : ((w4.setCell ⟨w.heap.size, 0, none⟩ (.int .i64 (x : Int))).setCell ⟨w.heap.size, 1, none⟩ (.int .i64 (y : Int))).cell? ⟨w.heap.size, 0, none⟩ = some (.int .i64 (x : Int)) := by
      rw [cell_set_ne _ _ _ _ _ _ (.inr (by omega))]; exact cell_set_same _ _ _ _ _ q0
    have r1 : ((w4.setCell ⟨w.heap.size, 0, none⟩ (.int .i64 (x : Int))).setCell ⟨w.heap.size, 1, none⟩ (.int .i64 (y : Int))).cell? ⟨w.heap.size, 1, none⟩ = some (.int .i64 (y : Int)) :=
      cell_set_same _ _ _ _ _ (by rw [cell_set_ne _ _ _ _ _ _ (.inr (by omega))]; exact q1)
    go_wp2_with fail
    refine bodyPost_ret (v := .tuple #[.agg #[.int .i64 (x : Int), .int .i64 (y : Int)], .bool true]) (by simp [results, Tryd.results25, go_sem, *]) rfl ?_
    rw [HD.out]
    exact ⟨rfl, by (repeat (first | with_reducible exact Below.refl _ _ | with_reducible assumption | with_reducible refine up_alloc ?_ _ | with_reducible refine up_drew ?_ | with_reducible refine up_drewN ?_ _ | (with_reducible refine up_set ?_ ?hset _; case hset => first | (simp; done) | (simp; omega) | omega) | with_reducible refine up_trans ?_ (by with_reducible assumption)))⟩
/-- The reference reads a spot. -/
theorem stParse_s (l : List UInt8) (w : World) (hl : l.length ≤ 1048576) : Calls Tryd.prog 25 #[.string (bS l)] w (Ans w (spW (spP 6 l))) := by
  by_cases h2 : (splitL 44 l).length = 2
  · obtain ⟨p, q, hs, hc, _⟩ := split_two h2
    cases hp : rdL 6 p with
    | none => exact stParse_bad1 l p q w hl hs hc hp
    | some x =>
      cases hq : rdL 6 q with
      | none => exact stParse_bad2 l p q w hl hs hc x hp hq
      | some y =>
        by_cases hxy : x ≤ 1280 ∧ y ≤ 672
        · exact stParse_spot l p q w hl hs hc x y hp hq hxy
        · exact stParse_nospot l p q w hl hs hc x y hp hq hxy
  · exact stParse_no l w hl h2
end Go.Proofs.YtbfhfjpfjkdcfaaDoor
