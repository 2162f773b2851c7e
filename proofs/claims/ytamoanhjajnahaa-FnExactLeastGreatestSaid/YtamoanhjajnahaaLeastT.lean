/-
  LeastTransition on both sides.
-/
import Derived.Test.YtamoanhjajnahaaRows
import Derived.Test.YtamoanhjajnahaaBase
import Derived.Test.YtamoanhjajnahaaSpot
import Derived.Test.YtamoanhjajnahaaSlice
import Derived.Test.YtamoanhjajnahaaChart
import Derived.Test.YtamoanhjajnahaaLawS
import Derived.Test.YtamoanhjajnahaaMark
import Derived.Test.YtamoanhjajnahaaOpen
import Derived.Test.YtamoanhjajnahaaTrod
import Derived.Test.YtamoanhjajnahaaInts
import Derived.Test.YtamoanhjajnahaaIntsL
import Derived.Test.YtamoanhjajnahaaTurned
import Derived.Test.YtamoanhjajnahaaTrans
import Derived.Test.YtamoanhjajnahaaAppend
import Derived.Test.YtamoanhjajnahaaAppendE
import Derived.Test.YtamoanhjajnahaaForm
import Derived.Test.YtamoanhjajnahaaCopyI
import Derived.Test.YtamoanhjajnahaaChanged
import Derived.Test.YtamoanhjajnahaaNewT
import Derived.Test.YtamoanhjajnahaaMatch
import Derived.Test.YtamoanhjajnahaaRowsI
import Derived.Test.YtamoanhjajnahaaCosts
import Derived.Test.YtamoanhjajnahaaMatS
import Derived.Test.YtamoanhjajnahaaMatchP
import Derived.Test.YtamoanhjajnahaaMatchQ
import Derived.Test.YtamoanhjajnahaaOnes
import Derived.Test.YtamoanhjajnahaaTable
import Derived.Test.YtamoanhjajnahaaLeast
import Derived.Test.YtamoanhjajnahaaLeastM
import Derived.Test.YtamoanhjajnahaaRowB

namespace Go.Proofs.Ytamoanhjajnahaa
open Go.RowKit Go.ChangeShapes Go.WideShapes Go.Sort

/-- The squares of all ways. -/
def sqF (X Y U V : Nat → Int) (i j : Nat) : Int := sq (X i) (Y i) (U j) (V j)
/-- The four stores of a struct of four cells. -/
def put4 (w : World) (b : Nat) (v0 v1 v2 v3 : Value) : World := (((w.setCell ⟨b, 0, none⟩ v0).setCell ⟨b, 1, none⟩ v1).setCell ⟨b, 2, none⟩ v2).setCell ⟨b, 3, none⟩ v3
theorem put4_turned {lo hi : Nat} {w : World} {b : Nat} (h1 : lo ≤ b) (h2 : b < hi) (v0 v1 v2 v3 : Value) : Turned lo hi w (put4 w b v0 v1 v2 v3) :=
  Turned.trans (Turned.trans (Turned.trans (Turned.set h1 h2 _) (Turned.set h1 h2 _)) (Turned.set h1 h2 _)) (Turned.set h1 h2 _)
theorem put4_cells {w : World} {b : Nat} {u0 u1 u2 u3 : Value} (h0 : w.cell? ⟨b, 0, none⟩ = some u0) (h1 : w.cell? ⟨b, 1, none⟩ = some u1) (h2 : w.cell? ⟨b, 2, none⟩ = some u2) (h3 : w.cell? ⟨b, 3, none⟩ = some u3) (v0 v1 v2 v3 : Value) :
    (put4 w b v0 v1 v2 v3).cell? ⟨b, 0, none⟩ = some v0 ∧ (put4 w b v0 v1 v2 v3).cell? ⟨b, 1, none⟩ = some v1 ∧ (put4 w b v0 v1 v2 v3).cell? ⟨b, 2, none⟩ = some v2 ∧ (put4 w b v0 v1 v2 v3).cell? ⟨b, 3, none⟩ = some v3 := by
  have s0 := cell_set_same w b 0 _ v0 h0
  have a1 := (cell_set_ne w b 0 v0 b 1 (by omega)).trans h1
  have a2 := (cell_set_ne w b 0 v0 b 2 (by omega)).trans h2
  have a3 := (cell_set_ne w b 0 v0 b 3 (by omega)).trans h3
  unfold put4
  generalize w.setCell ⟨b, 0, none⟩ v0 = w1 at *
  have s1 := cell_set_same w1 b 1 _ v1 a1
  have s0 := (cell_set_ne w1 b 1 v1 b 0 (by omega)).trans s0
  have a2 := (cell_set_ne w1 b 1 v1 b 2 (by omega)).trans a2
  have a3 := (cell_set_ne w1 b 1 v1 b 3 (by omega)).trans a3
  generalize w1.setCell ⟨b, 1, none⟩ v1 = w2 at *
  have s2 := cell_set_same w2 b 2 _ v2 a2
  have s0 := (cell_set_ne w2 b 2 v2 b 0 (by omega)).trans s0
  have s1 := (cell_set_ne w2 b 2 v2 b 1 (by omega)).trans s1
  have a3 := (cell_set_ne w2 b 2 v2 b 3 (by omega)).trans a3
  generalize w2.setCell ⟨b, 2, none⟩ v2 = w3 at *
  have s3 := cell_set_same w3 b 3 _ v3 a3
  exact ⟨(cell_set_ne w3 b 3 v3 b 0 (by omega)).trans s0, (cell_set_ne w3 b 3 v3 b 1 (by omega)).trans s1, (cell_set_ne w3 b 3 v3 b 2 (by omega)).trans s2, s3⟩
theorem leastMatching_r (v : Value) (n : Nat) (R : Nat → Nat) (F : Nat → Nat → Int) (w : World) (h : IRows w v n R F) (e : acB n R F = true) : Calls Try.prog 76 #[v] w (AnsI w n (lmP n F)) := by
  obtain ⟨⟨n1, n12⟩, _, hF⟩ := acB_iff e
  obtain ⟨b, o, c', B, O, C, rfl, hM⟩ := mat_of h e
  have := leastMatching_m b o c' n F B O C w hM n1 n12 (fun i k hi hk => by have := hF i k hi hk; omega) (tab_low (by omega) n12 hF 0)
  rw [tab_same n12 hF] at this
  exact this
theorem maLeast_r (v : Value) (n : Nat) (R : Nat → Nat) (F : Nat → Nat → Int) (w : World) (h : IRows w v n R F) (e : acB n R F = true) : Calls Try.prog 72 #[v] w (AnsII w n (lmP n F) (lmS n F)) := by
  obtain ⟨⟨n1, n12⟩, _, hF⟩ := acB_iff e
  obtain ⟨b, o, c', B, O, C, rfl, hM⟩ := mat_of h e
  exact maLeast_m b o c' n F B O C w hM n1 n12 (fun i k hi hk => by have := hF i k hi hk; omega) (tab_low (by omega) n12 hF 0)
set_option maxRecDepth 100000 in
set_option maxHeartbeats 2000000 in
theorem squaresOf_g (a t : Value) (n m : Nat) (X Y U V : Nat → Int) (w : World) (ha : Spots w a n X Y) (ht : Spots w t m U V) (hn : n ≤ 1048576) (hm : m ≤ 1048576) (hX : ∀ i, i < n → spotB (X i) (Y i) = true) (hU : ∀ i, i < m → spotB (U i) (V i) = true) :
    Calls Try.prog 86 #[a, t] w (AnsRw w n (fun _ => m) (sqF X Y U V)) := by
  obtain ⟨A1, c1, rfl, _, hra⟩ := ha
  obtain ⟨A2, c2, rfl, _, hrt⟩ := ht
  have HA := Lib.hid hra
  have HT := Lib.hid hrt
  have HX := Lib.hid hX
  have HU := Lib.hid hU
  clear hra hrt hX hU
  go_enter Try.func86, Try.ntmps86
  go_wp2_with fail
  go_loopw [5, 14] (fun q i wr => ∃ k : Nat, k ≤ n ∧ i = .int .i64 k ∧ OwnB w.heap.size wr q k (fun _ => m) (sqF X Y U V) ∧ Below w.heap.size w wr) (fun _ i _ => n - (intOf i).toNat)
  case atStart => exact ⟨0, by omega, rfl, OwnB.empty (Nat.le_refl _) _ _, below_alloc _ _⟩
  case round =>
    obtain ⟨k, hk, rfl, how, hb⟩ := hrel
    by_cases hlt : k < n
    · obtain ⟨b, o, rfl, hr0⟩ := HA.out (by omega)
      have c1 := up_keep hb (hr0 k hlt).1
      have c2 := up_keep hb (hr0 k hlt).2
      have hs := hb.size
      have how2 := Lib.hid how
      clear hr0 how
      go_wp2_with fail
      generalize hW5 : World.alloc _ _ = W5 at *
      have hb5 : Below wr.heap.size wr W5 := by subst hW5; (repeat (first | with_reducible exact Below.refl _ _ | with_reducible assumption | with_reducible refine up_alloc ?_ _ | with_reducible refine up_drew ?_ | with_reducible refine up_drewN ?_ _ | (with_reducible refine up_set ?_ ?hset _; case hset => first | (simp; done) | (simp; omega) | omega) | with_reducible refine up_trans ?_ (by with_reducible assumption)))
      have e0 : W5.cell? ⟨wr.heap.size, 0, none⟩ = some (.int .i64 (X k)) := by subst hW5; simp [go_sem]
      have e1 : W5.cell? ⟨wr.heap.size, 1, none⟩ = some (.int .i64 (Y k)) := by subst hW5; simp [go_sem]
      have hE : OwnN (wr.heap.size + 1) W5 (.slice (some ⟨wr.heap.size + 1, 0, none⟩) 0 0) 0 (sqF X Y U V k) := by
          subst hW5
          have := OwnN.empty (base := wr.heap.size + 1) (w := wr.alloc (.cells #[.int .i64 (X k), .int .i64 (Y k)] 82)) (by simp) (sqF X Y U V k)
          simpa using this
      clear hW5 c1 c2
      obtain ⟨w4, rfl⟩ : ∃ W : World, W = wr := ⟨_, rfl⟩
      have hs5 : w4.heap.size + 1 ≤ W5.heap.size := lt_of_cell e0
      go_loopw [8, 21] (fun q i wi => ∃ j : Nat, j ≤ m ∧ i = .int .i64 j ∧ OwnN (w4.heap.size + 1) wi q j (sqF X Y U V k) ∧ Below (w4.heap.size + 1) W5 wi) (fun _ i _ => m - (intOf i).toNat)
      case atStart => exact ⟨0, by omega, rfl, hE, Below.refl _ _⟩
      case round =>
        obtain ⟨j, hj, rfl, hoj, hbj⟩ := hrel
        have hw4 := hb5.trans (hbj.mono (Nat.le_succ _))
        have hsj := hbj.size
        by_cases hlt2 : j < m
        · obtain ⟨b2, o2, rfl, hr2⟩ := HT.out (by omega)
          have hwj := hb.trans (hw4.mono hs)
          have d0 := up_keep hwj (hr2 j hlt2).1
          have d1 := up_keep hwj (hr2 j hlt2).2
          have f0 := (hbj.cell (p := ⟨w4.heap.size, 0, none⟩) (Nat.lt_succ_self _)).trans e0
          have f1 := (hbj.cell (p := ⟨w4.heap.size, 1, none⟩) (Nat.lt_succ_self _)).trans e1
          have HC := Lib.hid (squareOf_any (X k) (Y k) (U j) (V j) (HX.out k hlt) (HU.out j hlt2))
          have HS := Lib.hid (show sqF X Y U V k j = sq (X k) (Y k) (U j) (V j) from rfl)
          have hoj2 := Lib.hid hoj
          have g0 := up_keep (below_alloc wr (.cells #[.int .i64 (U j), .int .i64 (V j)] 82)) f0
          have g1 := up_keep (below_alloc wr (.cells #[.int .i64 (U j), .int .i64 (V j)] 82)) f1
          clear hr2 hoj hE
          go_wp2_with fail
          refine (HC.out _).mono ?_
          rintro e w7 ⟨rfl, hb7⟩
          go_wp2_with (at_builtin; refine wpList_app_int2 rfl (.tmp 25) (.tmp 29) rfl (w4.heap.size + 1) _ j (sqF X Y U V k) rfl rfl HS.out (by simp [go_sem]) (OwnN.up hoj2.out (show Below wr.heap.size wr _ from (by (repeat (first | with_reducible exact Below.refl _ _ | with_reducible assumption | with_reducible refine up_alloc ?_ _ | with_reducible refine up_drew ?_ | with_reducible refine up_drewN ?_ _ | (with_reducible refine up_set ?_ ?hset _; case hset => first | (simp; done) | (simp; omega) | omega) | with_reducible refine up_trans ?_ (by with_reducible assumption)))))) (Nat.le_trans (show w4.heap.size + 1 ≤ wr.heap.size from by omega) (show Below wr.heap.size wr _ from (by (repeat (first | with_reducible exact Below.refl _ _ | with_reducible assumption | with_reducible refine up_alloc ?_ _ | with_reducible refine up_drew ?_ | with_reducible refine up_drewN ?_ _ | (with_reducible refine up_set ?_ ?hset _; case hset => first | (simp; done) | (simp; omega) | omega) | with_reducible refine up_trans ?_ (by with_reducible assumption))))).size) (by omega) ?_; intro v2 w2 ho2 hb2x _ _; have hb2 := hbj.trans (((show Below wr.heap.size wr _ from (by (repeat (first | with_reducible exact Below.refl _ _ | with_reducible assumption | with_reducible refine up_alloc ?_ _ | with_reducible refine up_drew ?_ | with_reducible refine up_drewN ?_ _ | (with_reducible refine up_set ?_ ?hset _; case hset => first | (simp; done) | (simp; omega) | omega) | with_reducible refine up_trans ?_ (by with_reducible assumption))))).mono (by omega)).trans hb2x))
          go_roundw
          case rel => exact ⟨j + 1, by omega, by go_num, ho2, hb2⟩
          case measure => simp [intOf]; omega
        · have e : j = m := by omega
          subst e
          obtain ⟨ra, rc, rfl, _⟩ := hoj.shape
          go_wp2_with (at_builtin; refine wpList_app_row (wa := w4) rfl (.tmp 32) (.tmp 34) rfl w.heap.size _ k (fun _ => j) (sqF X Y U V) rfl rfl (by simp [go_sem]) how2.out hs (show Below w4.heap.size w4 _ from (by (repeat (first | with_reducible exact Below.refl _ _ | with_reducible assumption | with_reducible refine up_alloc ?_ _ | with_reducible refine up_drew ?_ | with_reducible refine up_drewN ?_ _ | (with_reducible refine up_set ?_ ?hset _; case hset => first | (simp; done) | (simp; omega) | omega) | with_reducible refine up_trans ?_ (by with_reducible assumption))))) (((hoj.ownI).more (Nat.le_succ _)).up (show Below wr.heap.size wr _ from (by (repeat (first | with_reducible exact Below.refl _ _ | with_reducible assumption | with_reducible refine up_alloc ?_ _ | with_reducible refine up_drew ?_ | with_reducible refine up_drewN ?_ _ | (with_reducible refine up_set ?_ ?hset _; case hset => first | (simp; done) | (simp; omega) | omega) | with_reducible refine up_trans ?_ (by with_reducible assumption)))))) (by omega) ?_; intro v3 w3 ho3 hb3; replace hb3 := (hb.trans ((show Below w4.heap.size w4 _ from (by (repeat (first | with_reducible exact Below.refl _ _ | with_reducible assumption | with_reducible refine up_alloc ?_ _ | with_reducible refine up_drew ?_ | with_reducible refine up_drewN ?_ _ | (with_reducible refine up_set ?_ ?hset _; case hset => first | (simp; done) | (simp; omega) | omega) | with_reducible refine up_trans ?_ (by with_reducible assumption))))).mono hs)).trans hb3)
          go_roundw
          case rel => exact ⟨k + 1, by omega, by go_num, ho3, hb3⟩
          case measure => simp [intOf]; omega
    · have e : k = n := by omega
      subst e
      go_wp2_with fail
      go_ret
      exact ⟨_, rfl, how.rw, hb⟩
set_option maxRecDepth 100000 in
set_option maxHeartbeats 2000000 in
theorem asCosts_g (a t : Value) (n m : Nat) (X Y U V : Nat → Int) (w : World) (ha : Spots w a n X Y) (ht : Spots w t m U V) (hn : n ≤ 1048576) (hm : m ≤ 1048576) (hX : ∀ i, i < n → spotB (X i) (Y i) = true) (hU : ∀ i, i < m → spotB (U i) (V i) = true) :
    Calls Try.prog 81 #[a, t] w (AnsRw w n (fun _ => m) (sqF X Y U V)) := by
  obtain ⟨A1, c1, rfl, _, hra⟩ := ha
  obtain ⟨A2, c2, rfl, _, hrt⟩ := ht
  have HA := Lib.hid hra
  have HT := Lib.hid hrt
  have HX := Lib.hid hX
  have HU := Lib.hid hU
  clear hra hrt hX hU
  go_enter Try.func81, Try.ntmps81
  go_wp2_with fail
  go_loopw [5, 13] (fun q i wr => ∃ k : Nat, k ≤ n ∧ i = .int .i64 k ∧ OwnB w.heap.size wr q k (fun _ => m) (sqF X Y U V) ∧ Below w.heap.size w wr) (fun _ i _ => n - (intOf i).toNat)
  case atStart => exact ⟨0, by omega, rfl, OwnB.nil _ _ _ _, Below.refl _ _⟩
  case round =>
    obtain ⟨k, hk, rfl, how, hb⟩ := hrel
    by_cases hlt : k < n
    · obtain ⟨b, o, rfl, hr0⟩ := HA.out (by omega)
      have c1 := up_keep hb (hr0 k hlt).1
      have c2 := up_keep hb (hr0 k hlt).2
      have hs := hb.size
      have how2 := Lib.hid how
      clear hr0 how
      go_wp2_with fail
      generalize hW5 : World.alloc _ _ = W5 at *
      have hb5 : Below wr.heap.size wr W5 := by subst hW5; (repeat (first | with_reducible exact Below.refl _ _ | with_reducible assumption | with_reducible refine up_alloc ?_ _ | with_reducible refine up_drew ?_ | with_reducible refine up_drewN ?_ _ | (with_reducible refine up_set ?_ ?hset _; case hset => first | (simp; done) | (simp; omega) | omega) | with_reducible refine up_trans ?_ (by with_reducible assumption)))
      have e0 : W5.cell? ⟨wr.heap.size, 0, none⟩ = some (.int .i64 (X k)) := by subst hW5; simp [go_sem]
      have e1 : W5.cell? ⟨wr.heap.size, 1, none⟩ = some (.int .i64 (Y k)) := by subst hW5; simp [go_sem]
      have hE := OwnN.nil (wr.heap.size + 1) W5 (sqF X Y U V k)
      clear hW5 c1 c2
      obtain ⟨w4, rfl⟩ : ∃ W : World, W = wr := ⟨_, rfl⟩
      have hs5 : w4.heap.size + 1 ≤ W5.heap.size := lt_of_cell e0
      go_loopw [8, 19] (fun q i wi => ∃ j : Nat, j ≤ m ∧ i = .int .i64 j ∧ OwnN (w4.heap.size + 1) wi q j (sqF X Y U V k) ∧ Below (w4.heap.size + 1) W5 wi) (fun _ i _ => m - (intOf i).toNat)
      case atStart => exact ⟨0, by omega, rfl, hE, Below.refl _ _⟩
      case round =>
        obtain ⟨j, hj, rfl, hoj, hbj⟩ := hrel
        have hw4 := hb5.trans (hbj.mono (Nat.le_succ _))
        have hsj := hbj.size
        by_cases hlt2 : j < m
        · obtain ⟨b2, o2, rfl, hr2⟩ := HT.out (by omega)
          have hwj := hb.trans (hw4.mono hs)
          have d0 := up_keep hwj (hr2 j hlt2).1
          have d1 := up_keep hwj (hr2 j hlt2).2
          have f0 := (hbj.cell (p := ⟨w4.heap.size, 0, none⟩) (Nat.lt_succ_self _)).trans e0
          have f1 := (hbj.cell (p := ⟨w4.heap.size, 1, none⟩) (Nat.lt_succ_self _)).trans e1
          have HC := Lib.hid (stSquare_any (X k) (Y k) (U j) (V j) (HX.out k hlt) (HU.out j hlt2))
          have HS := Lib.hid (show sqF X Y U V k j = sq (X k) (Y k) (U j) (V j) from rfl)
          have hoj2 := Lib.hid hoj
          have g0 := up_keep (below_alloc wr (.cells #[.int .i64 (U j), .int .i64 (V j)] 82)) f0
          have g1 := up_keep (below_alloc wr (.cells #[.int .i64 (U j), .int .i64 (V j)] 82)) f1
          clear hr2 hoj hE
          go_wp2_with fail
          refine (HC.out _).mono ?_
          rintro e w7 ⟨rfl, hb7⟩
          go_wp2_with (at_builtin; refine wpList_app_int2 rfl (.tmp 23) (.tmp 27) rfl (w4.heap.size + 1) _ j (sqF X Y U V k) rfl rfl HS.out (by simp [go_sem]) (OwnN.up hoj2.out (show Below wr.heap.size wr _ from (by (repeat (first | with_reducible exact Below.refl _ _ | with_reducible assumption | with_reducible refine up_alloc ?_ _ | with_reducible refine up_drew ?_ | with_reducible refine up_drewN ?_ _ | (with_reducible refine up_set ?_ ?hset _; case hset => first | (simp; done) | (simp; omega) | omega) | with_reducible refine up_trans ?_ (by with_reducible assumption)))))) (Nat.le_trans (show w4.heap.size + 1 ≤ wr.heap.size from by omega) (show Below wr.heap.size wr _ from (by (repeat (first | with_reducible exact Below.refl _ _ | with_reducible assumption | with_reducible refine up_alloc ?_ _ | with_reducible refine up_drew ?_ | with_reducible refine up_drewN ?_ _ | (with_reducible refine up_set ?_ ?hset _; case hset => first | (simp; done) | (simp; omega) | omega) | with_reducible refine up_trans ?_ (by with_reducible assumption))))).size) (by omega) ?_; intro v2 w2 ho2 hb2x _ _; have hb2 := hbj.trans (((show Below wr.heap.size wr _ from (by (repeat (first | with_reducible exact Below.refl _ _ | with_reducible assumption | with_reducible refine up_alloc ?_ _ | with_reducible refine up_drew ?_ | with_reducible refine up_drewN ?_ _ | (with_reducible refine up_set ?_ ?hset _; case hset => first | (simp; done) | (simp; omega) | omega) | with_reducible refine up_trans ?_ (by with_reducible assumption))))).mono (by omega)).trans hb2x))
          go_roundw
          case rel => exact ⟨j + 1, by omega, by go_num, ho2, hb2⟩
          case measure => simp [intOf]; omega
        · have e : j = m := by omega
          subst e
          obtain ⟨ra, rc, rfl, _⟩ := hoj.shape
          go_wp2_with (at_builtin; refine wpList_app_row (wa := w4) rfl (.tmp 30) (.tmp 32) rfl w.heap.size _ k (fun _ => j) (sqF X Y U V) rfl rfl (by simp [go_sem]) how2.out hs (show Below w4.heap.size w4 _ from (by (repeat (first | with_reducible exact Below.refl _ _ | with_reducible assumption | with_reducible refine up_alloc ?_ _ | with_reducible refine up_drew ?_ | with_reducible refine up_drewN ?_ _ | (with_reducible refine up_set ?_ ?hset _; case hset => first | (simp; done) | (simp; omega) | omega) | with_reducible refine up_trans ?_ (by with_reducible assumption))))) (((hoj.ownI).more (Nat.le_succ _)).up (show Below wr.heap.size wr _ from (by (repeat (first | with_reducible exact Below.refl _ _ | with_reducible assumption | with_reducible refine up_alloc ?_ _ | with_reducible refine up_drew ?_ | with_reducible refine up_drewN ?_ _ | (with_reducible refine up_set ?_ ?hset _; case hset => first | (simp; done) | (simp; omega) | omega) | with_reducible refine up_trans ?_ (by with_reducible assumption)))))) (by omega) ?_; intro v3 w3 ho3 hb3; replace hb3 := (hb.trans ((show Below w4.heap.size w4 _ from (by (repeat (first | with_reducible exact Below.refl _ _ | with_reducible assumption | with_reducible refine up_alloc ?_ _ | with_reducible refine up_drew ?_ | with_reducible refine up_drewN ?_ _ | (with_reducible refine up_set ?_ ?hset _; case hset => first | (simp; done) | (simp; omega) | omega) | with_reducible refine up_trans ?_ (by with_reducible assumption))))).mono hs)).trans hb3)
          go_roundw
          case rel => exact ⟨k + 1, by omega, by go_num, ho3, hb3⟩
          case measure => simp [intOf]; omega
    · have e : k = n := by omega
      subst e
      go_wp2_with fail
      go_ret
      exact ⟨_, rfl, how.rw, hb⟩
def ltD (n m : Nat) (X Y U V : Nat → Int) (c : Int) : TrD := if ccB n m X Y U V c then mkT n m n X Y U V (lmP n (sqF X Y U V)) c else TrD.zero
theorem ltD_le (n m : Nat) (X Y U V : Nat → Int) (c : Int) (hn : n ≤ 1048576) (hm : m ≤ 1048576) : (ltD n m X Y U V c).n ≤ n ∧ (ltD n m X Y U V c).m ≤ m ∧ (ltD n m X Y U V c).l ≤ n := by
  unfold ltD
  split <;> simp [mkT, TrD.zero]
theorem ccB_sq {n m : Nat} {X Y U V : Nat → Int} {c : Int} (h : ccB n m X Y U V c = true) : (∀ i, i < n → spotB (X i) (Y i) = true) ∧ (∀ i, i < m → spotB (U i) (V i) = true) ∧ acB n (fun _ => m) (sqF X Y U V) = true ∧ n ≤ 12 ∧ m ≤ 12 := by
  simp only [ccB, cpB, Bool.and_eq_true, decide_eq_true_eq] at h
  obtain ⟨⟨⟨h1, h2⟩, h3⟩, _⟩ := h
  have k1 := chartB_iff.1 h1
  have k2 := chartB_iff.1 h2
  subst h3
  refine ⟨k1.2.1, k2.2.1, ?_, by omega, by omega⟩
  simp only [acB, Bool.and_eq_true]
  refine ⟨inB_iff.2 (by omega), allB_iff.2 fun i hi => ?_⟩
  simp only [Bool.and_eq_true, beq_iff_eq, true_and]
  refine allB_iff.2 fun j hj => inB_iff.2 ?_
  have := sq_bd (k1.2.1 i hi) (k2.2.1 j hj)
  unfold sqF
  omega
set_option maxRecDepth 100000 in
set_option maxHeartbeats 2000000 in
theorem iLeastTransition_g (f t : Value) (n m : Nat) (X Y U V : Nat → Int) (c : Int) (w : World) (hf : Spots w f n X Y) (ht : Spots w t m U V) (hn : n ≤ 1048576) (hm : m ≤ 1048576) :
    Calls Try.prog 46 #[f, t, .int .i64 c] w (AnsTB w (ltD n m X Y U V c) (ccB n m X Y U V c)) := by
  have HF := Lib.hid hf
  have HT := Lib.hid ht
  obtain ⟨A1', c1, rfl, b1⟩ := hf.shape
  obtain ⟨A2', c2, rfl, b2⟩ := ht.shape
  clear hf ht
  have HC := Lib.hid (fun W (hW : Below w.heap.size w W) => canChange_g _ _ n m X Y U V c W (HF.out.up hW) (HT.out.up hW) hn hm)
  cases e1 : ccB n m X Y U V c with
  | false =>
    rw [e1] at HC
    rw [show ltD n m X Y U V c = TrD.zero by simp [ltD, e1]]
    clear e1
    go_enter Try.func46, Try.ntmps46
    go_wp2_with fail
    generalize hW : World.alloc w _ = W0 at *
    have hbW : Below w.heap.size w W0 := by subst hW; (repeat (first | with_reducible exact Below.refl _ _ | with_reducible assumption | with_reducible refine up_alloc ?_ _ | with_reducible refine up_drew ?_ | with_reducible refine up_drewN ?_ _ | (with_reducible refine up_set ?_ ?hset _; case hset => first | (simp; done) | (simp; omega) | omega) | with_reducible refine up_trans ?_ (by with_reducible assumption)))
    have k0 : W0.cell? ⟨w.heap.size, 0, none⟩ = some (.slice none 0 0) := by subst hW; simp [go_sem]
    have k1 : W0.cell? ⟨w.heap.size, 1, none⟩ = some (.slice none 0 0) := by subst hW; simp [go_sem]
    have k2 : W0.cell? ⟨w.heap.size, 2, none⟩ = some (.int .i64 0) := by subst hW; simp [go_sem]
    have k3 : W0.cell? ⟨w.heap.size, 3, none⟩ = some (.slice none 0 0) := by subst hW; simp [go_sem]
    have kf : Free W0 w.heap.size := by subst hW; intro o; simp [go_sem]
    have hlt0 : w.heap.size < W0.heap.size := lt_of_cell k0
    clear hW
    refine (HC.out _ hbW).mono ?_
    rintro e w1 ⟨rfl, hb1⟩
    have hw1 := up_trans hbW hb1
    have hs1 := hb1.size
    replace k0 := up_keep hb1 k0
    replace k1 := up_keep hb1 k1
    replace k2 := up_keep hb1 k2
    replace k3 := up_keep hb1 k3
    have kf1 := kf.up hlt0 hb1
    have fz0 := kf1 0; have fz1 := kf1 1; have fz2 := kf1 2; have fz3 := kf1 3
    go_wp2_with fail
    obtain ⟨p0, p1, p2, p3⟩ := put4_cells k0 k1 k2 k3 (.slice none 0 0) (.slice none 0 0) (.int .i64 0) (.slice none 0 0)
    have hT := put4_turned (lo := w.heap.size) (hi := W0.heap.size) (w := w1) (b := w.heap.size) (Nat.le_refl _) (by omega) (.slice none 0 0) (.slice none 0 0) (.int .i64 0) (.slice none 0 0)
    unfold put4 at p0 p1 p2 p3 hT
    generalize hW8 : World.setCell (World.setCell (World.setCell (World.setCell w1 _ _) _ _) _ _) _ _ = W8 at *
    clear hW8
    refine bodyPost_ret (v := .tuple #[.agg #[.slice none 0 0, .slice none 0 0, .int .i64 0, .slice none 0 0], .bool false]) (by simp [results, Try.results46, go_sem, p0, p1, p2, p3]) rfl ?_
    exact ⟨_, rfl, OwnT.zero, hw1.trans (hT.below (by omega))⟩
  | true =>
    rw [e1] at HC
    rw [show ltD n m X Y U V c = mkT n m n X Y U V (lmP n (sqF X Y U V)) c by simp [ltD, e1]]
    obtain ⟨hX, hU, hv, n12, m12⟩ := ccB_sq e1
    have HV := Lib.hid hv
    have HQ := Lib.hid (fun W (hW : Below w.heap.size w W) => squaresOf_g _ _ n m X Y U V W (HF.out.up hW) (HT.out.up hW) hn hm hX hU)
    have HN := Lib.hid (fun W p (hW : Below w.heap.size w W) (hp : Ints W p n (lmP n (sqF X Y U V))) => newTransition_g _ _ p n m n X Y U V (lmP n (sqF X Y U V)) c W (HF.out.up hW) (HT.out.up hW) hp hn hm hn)
    clear e1 hX hU hv
    go_enter Try.func46, Try.ntmps46
    go_wp2_with fail
    generalize hW : World.alloc w _ = W0 at *
    have hbW : Below w.heap.size w W0 := by subst hW; (repeat (first | with_reducible exact Below.refl _ _ | with_reducible assumption | with_reducible refine up_alloc ?_ _ | with_reducible refine up_drew ?_ | with_reducible refine up_drewN ?_ _ | (with_reducible refine up_set ?_ ?hset _; case hset => first | (simp; done) | (simp; omega) | omega) | with_reducible refine up_trans ?_ (by with_reducible assumption)))
    have k0 : W0.cell? ⟨w.heap.size, 0, none⟩ = some (.slice none 0 0) := by subst hW; simp [go_sem]
    have k1 : W0.cell? ⟨w.heap.size, 1, none⟩ = some (.slice none 0 0) := by subst hW; simp [go_sem]
    have k2 : W0.cell? ⟨w.heap.size, 2, none⟩ = some (.int .i64 0) := by subst hW; simp [go_sem]
    have k3 : W0.cell? ⟨w.heap.size, 3, none⟩ = some (.slice none 0 0) := by subst hW; simp [go_sem]
    have kf : Free W0 w.heap.size := by subst hW; intro o; simp [go_sem]
    have hlt0 : w.heap.size < W0.heap.size := lt_of_cell k0
    clear hW
    refine (HC.out _ hbW).mono ?_
    rintro e w1 ⟨rfl, hb1⟩
    have hw1 := up_trans hbW hb1
    have hs1 := hb1.size
    go_wp2_with fail
    refine (HQ.out _ hw1).mono ?_
    rintro e w2 ⟨v2, rfl, hq2, hb2⟩
    have hw2 := up_trans hw1 hb2
    have hs2 := hb2.size
    obtain ⟨a2, q2, rfl, _⟩ := hq2.rows.shape
    go_wp2_with fail
    refine (leastMatching_r _ n (fun _ => m) (sqF X Y U V) _ hq2.rows HV.out).mono ?_
    rintro e w3 ⟨v3, rfl, hl3, hb3⟩
    have hw3 := up_trans hw2 hb3
    have hs3 := hb3.size
    obtain ⟨a3, q3, rfl, _⟩ := hl3.shape
    go_wp2_with fail
    refine (HN.out _ _ hw3 hl3.ints).mono ?_
    rintro e w4 ⟨u, rfl, hu, hb4⟩
    have hw4 := up_trans hw3 hb4
    have hs4 := hb4.size
    obtain ⟨f3, t3, p3, he3, g1, g2, g3, _⟩ := id hu
    dsimp only [mkT] at he3 g1 g2 g3
    obtain ⟨B1, r1, rfl, _⟩ := g1.shape
    obtain ⟨B2, r2, rfl, _⟩ := g2.shape
    obtain ⟨B3, r3, rfl, _⟩ := g3.shape
    subst he3
    clear g1 g2 g3
    have hbz := up_trans (up_trans (up_trans hb1 hb2) hb3) hb4
    replace k0 := up_keep hbz k0
    replace k1 := up_keep hbz k1
    replace k2 := up_keep hbz k2
    replace k3 := up_keep hbz k3
    have kf4 := kf.up hlt0 hbz
    have fz0 := kf4 0; have fz1 := kf4 1; have fz2 := kf4 2; have fz3 := kf4 3
    go_wp2_with fail
    obtain ⟨p0, p1, p2, p3⟩ := put4_cells k0 k1 k2 k3 (.slice B1 n r1) (.slice B2 m r2) (.int .i64 c) (.slice B3 n r3)
    have hT := put4_turned (lo := w.heap.size) (hi := W0.heap.size) (w := w4) (b := w.heap.size) (Nat.le_refl _) (by omega) (.slice B1 n r1) (.slice B2 m r2) (.int .i64 c) (.slice B3 n r3)
    unfold put4 at p0 p1 p2 p3 hT
    generalize hW8 : World.setCell (World.setCell (World.setCell (World.setCell w4 _ _) _ _) _ _) _ _ = W8 at *
    clear hW8
    refine bodyPost_ret (v := .tuple #[.agg #[.slice B1 n r1, .slice B2 m r2, .int .i64 c, .slice B3 n r3], .bool true]) (by simp [results, Try.results46, go_sem, p0, p1, p2, p3]) rfl ?_
    exact ⟨_, rfl, (hu.turn hT (by omega)).more (by omega), hw4.trans (hT.below (by omega))⟩
set_option maxRecDepth 100000 in
set_option maxHeartbeats 2000000 in
theorem sLeastTransition_g (f t : Value) (n m : Nat) (X Y U V : Nat → Int) (c : Int) (w : World) (hf : Spots w f n X Y) (ht : Spots w t m U V) (hn : n ≤ 1048576) (hm : m ≤ 1048576) :
    Calls Try.prog 44 #[f, t, .int .i64 c] w (AnsTB w (ltD n m X Y U V c) (ccB n m X Y U V c)) := by
  have HF := Lib.hid hf
  have HT := Lib.hid ht
  obtain ⟨A1', c1, rfl, b1⟩ := hf.shape
  obtain ⟨A2', c2, rfl, b2⟩ := ht.shape
  clear hf ht
  have HC := Lib.hid (fun W (hW : Below w.heap.size w W) => asAsked_g _ _ n m X Y U V c W (HF.out.up hW) (HT.out.up hW) hn hm)
  cases e1 : ccB n m X Y U V c with
  | false =>
    rw [e1] at HC
    rw [show ltD n m X Y U V c = TrD.zero by simp [ltD, e1]]
    clear e1
    go_enter Try.func44, Try.ntmps44
    go_wp2_with fail
    generalize hW : World.alloc w _ = W0 at *
    have hbW : Below w.heap.size w W0 := by subst hW; (repeat (first | with_reducible exact Below.refl _ _ | with_reducible assumption | with_reducible refine up_alloc ?_ _ | with_reducible refine up_drew ?_ | with_reducible refine up_drewN ?_ _ | (with_reducible refine up_set ?_ ?hset _; case hset => first | (simp; done) | (simp; omega) | omega) | with_reducible refine up_trans ?_ (by with_reducible assumption)))
    have k0 : W0.cell? ⟨w.heap.size, 0, none⟩ = some (.slice none 0 0) := by subst hW; simp [go_sem]
    have k1 : W0.cell? ⟨w.heap.size, 1, none⟩ = some (.slice none 0 0) := by subst hW; simp [go_sem]
    have k2 : W0.cell? ⟨w.heap.size, 2, none⟩ = some (.int .i64 0) := by subst hW; simp [go_sem]
    have k3 : W0.cell? ⟨w.heap.size, 3, none⟩ = some (.slice none 0 0) := by subst hW; simp [go_sem]
    have kf : Free W0 w.heap.size := by subst hW; intro o; simp [go_sem]
    have hlt0 : w.heap.size < W0.heap.size := lt_of_cell k0
    clear hW
    refine (HC.out _ hbW).mono ?_
    rintro e w1 ⟨rfl, hb1⟩
    have hw1 := up_trans hbW hb1
    have hs1 := hb1.size
    replace k0 := up_keep hb1 k0
    replace k1 := up_keep hb1 k1
    replace k2 := up_keep hb1 k2
    replace k3 := up_keep hb1 k3
    have kf1 := kf.up hlt0 hb1
    have fz0 := kf1 0; have fz1 := kf1 1; have fz2 := kf1 2; have fz3 := kf1 3
    go_wp2_with fail
    obtain ⟨p0, p1, p2, p3⟩ := put4_cells k0 k1 k2 k3 (.slice none 0 0) (.slice none 0 0) (.int .i64 0) (.slice none 0 0)
    have hT := put4_turned (lo := w.heap.size) (hi := W0.heap.size) (w := w1) (b := w.heap.size) (Nat.le_refl _) (by omega) (.slice none 0 0) (.slice none 0 0) (.int .i64 0) (.slice none 0 0)
    unfold put4 at p0 p1 p2 p3 hT
    generalize hW8 : World.setCell (World.setCell (World.setCell (World.setCell w1 _ _) _ _) _ _) _ _ = W8 at *
    clear hW8
    refine bodyPost_ret (v := .tuple #[.agg #[.slice none 0 0, .slice none 0 0, .int .i64 0, .slice none 0 0], .bool false]) (by simp [results, Try.results44, go_sem, p0, p1, p2, p3]) rfl ?_
    exact ⟨_, rfl, OwnT.zero, hw1.trans (hT.below (by omega))⟩
  | true =>
    rw [e1] at HC
    rw [show ltD n m X Y U V c = mkT n m n X Y U V (lmP n (sqF X Y U V)) c by simp [ltD, e1]]
    obtain ⟨hX, hU, hv, n12, m12⟩ := ccB_sq e1
    have HV := Lib.hid hv
    have HQ := Lib.hid (fun W (hW : Below w.heap.size w W) => asCosts_g _ _ n m X Y U V W (HF.out.up hW) (HT.out.up hW) hn hm hX hU)
    have HN := Lib.hid (fun W p (hW : Below w.heap.size w W) (hp : Ints W p n (lmP n (sqF X Y U V))) => asWith_g _ _ p n m n X Y U V (lmP n (sqF X Y U V)) c W (HF.out.up hW) (HT.out.up hW) hp hn hm hn)
    clear e1 hX hU hv
    go_enter Try.func44, Try.ntmps44
    go_wp2_with fail
    generalize hW : World.alloc w _ = W0 at *
    have hbW : Below w.heap.size w W0 := by subst hW; (repeat (first | with_reducible exact Below.refl _ _ | with_reducible assumption | with_reducible refine up_alloc ?_ _ | with_reducible refine up_drew ?_ | with_reducible refine up_drewN ?_ _ | (with_reducible refine up_set ?_ ?hset _; case hset => first | (simp; done) | (simp; omega) | omega) | with_reducible refine up_trans ?_ (by with_reducible assumption)))
    have k0 : W0.cell? ⟨w.heap.size, 0, none⟩ = some (.slice none 0 0) := by subst hW; simp [go_sem]
    have k1 : W0.cell? ⟨w.heap.size, 1, none⟩ = some (.slice none 0 0) := by subst hW; simp [go_sem]
    have k2 : W0.cell? ⟨w.heap.size, 2, none⟩ = some (.int .i64 0) := by subst hW; simp [go_sem]
    have k3 : W0.cell? ⟨w.heap.size, 3, none⟩ = some (.slice none 0 0) := by subst hW; simp [go_sem]
    have kf : Free W0 w.heap.size := by subst hW; intro o; simp [go_sem]
    have hlt0 : w.heap.size < W0.heap.size := lt_of_cell k0
    clear hW
    refine (HC.out _ hbW).mono ?_
    rintro e w1 ⟨rfl, hb1⟩
    have hw1 := up_trans hbW hb1
    have hs1 := hb1.size
    go_wp2_with fail
    refine (HQ.out _ hw1).mono ?_
    rintro e w2 ⟨v2, rfl, hq2, hb2⟩
    have hw2 := up_trans hw1 hb2
    have hs2 := hb2.size
    obtain ⟨a2, q2, rfl, _⟩ := hq2.rows.shape
    go_wp2_with fail
    refine (maLeast_r _ n (fun _ => m) (sqF X Y U V) _ hq2.rows HV.out).mono ?_
    rintro e w3 ⟨v3, rfl, hl3, hb3⟩
    have hw3 := up_trans hw2 hb3
    have hs3 := hb3.size
    obtain ⟨a3, q3, rfl, _⟩ := hl3.shape
    go_wp2_with fail
    refine (HN.out _ _ hw3 hl3.ints).mono ?_
    rintro e w4 ⟨u, rfl, hu, hb4⟩
    have hw4 := up_trans hw3 hb4
    have hs4 := hb4.size
    obtain ⟨f3, t3, p3, he3, g1, g2, g3, _⟩ := id hu
    dsimp only [mkT] at he3 g1 g2 g3
    obtain ⟨B1, r1, rfl, _⟩ := g1.shape
    obtain ⟨B2, r2, rfl, _⟩ := g2.shape
    obtain ⟨B3, r3, rfl, _⟩ := g3.shape
    subst he3
    clear g1 g2 g3
    have hbz := up_trans (up_trans (up_trans hb1 hb2) hb3) hb4
    replace k0 := up_keep hbz k0
    replace k1 := up_keep hbz k1
    replace k2 := up_keep hbz k2
    replace k3 := up_keep hbz k3
    have kf4 := kf.up hlt0 hbz
    have fz0 := kf4 0; have fz1 := kf4 1; have fz2 := kf4 2; have fz3 := kf4 3
    go_wp2_with fail
    obtain ⟨p0, p1, p2, p3⟩ := put4_cells k0 k1 k2 k3 (.slice B1 n r1) (.slice B2 m r2) (.int .i64 c) (.slice B3 n r3)
    have hT := put4_turned (lo := w.heap.size) (hi := W0.heap.size) (w := w4) (b := w.heap.size) (Nat.le_refl _) (by omega) (.slice B1 n r1) (.slice B2 m r2) (.int .i64 c) (.slice B3 n r3)
    unfold put4 at p0 p1 p2 p3 hT
    generalize hW8 : World.setCell (World.setCell (World.setCell (World.setCell w4 _ _) _ _) _ _) _ _ = W8 at *
    clear hW8
    refine bodyPost_ret (v := .tuple #[.agg #[.slice B1 n r1, .slice B2 m r2, .int .i64 c, .slice B3 n r3], .bool true]) (by simp [results, Try.results44, go_sem, p0, p1, p2, p3]) rfl ?_
    exact ⟨_, rfl, (hu.turn hT (by omega)).more (by omega), hw4.trans (hT.below (by omega))⟩
end Go.Proofs.Ytamoanhjajnahaa
