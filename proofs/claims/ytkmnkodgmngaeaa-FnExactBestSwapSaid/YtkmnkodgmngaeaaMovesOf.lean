/-
  The moves of a transition; sums of squares, the farthest move.
-/
import Derived.Test.YtkmnkodgmngaeaaRows
import Derived.Test.YtkmnkodgmngaeaaBase
import Derived.Test.YtkmnkodgmngaeaaSpot
import Derived.Test.YtkmnkodgmngaeaaSlice
import Derived.Test.YtkmnkodgmngaeaaChart
import Derived.Test.YtkmnkodgmngaeaaLawS
import Derived.Test.YtkmnkodgmngaeaaMark
import Derived.Test.YtkmnkodgmngaeaaOpen
import Derived.Test.YtkmnkodgmngaeaaTrod
import Derived.Test.YtkmnkodgmngaeaaInts
import Derived.Test.YtkmnkodgmngaeaaIntsL
import Derived.Test.YtkmnkodgmngaeaaTurned
import Derived.Test.YtkmnkodgmngaeaaTrans
import Derived.Test.YtkmnkodgmngaeaaAppend
import Derived.Test.YtkmnkodgmngaeaaAppendE
import Derived.Test.YtkmnkodgmngaeaaForm
import Derived.Test.YtkmnkodgmngaeaaMatch
import Derived.Test.YtkmnkodgmngaeaaChanged
import Derived.Test.YtkmnkodgmngaeaaIsTrans
import Derived.Test.YtkmnkodgmngaeaaMove
import Derived.Test.YtkmnkodgmngaeaaMoves
import Derived.Test.YtkmnkodgmngaeaaAppendM
import Derived.Test.YtkmnkodgmngaeaaCopyI
import Derived.Deep.RegionHeld3

namespace Go.Proofs.Ytkmnkodgmngaeaa
open Go.RowKit Go.ChangeShapes Go.WideShapes Go.Sort

/-- The moves of a transition. -/
def mvM (d : TrD) (i k : Nat) : Int := if k = 0 then d.X i else if k = 1 then d.Y i else if k = 2 then d.U (d.P i).toNat else if k = 3 then d.V (d.P i).toNat else d.c
def sqM (d : TrD) (i : Nat) : Int := sq (d.X i) (d.Y i) (d.U (d.P i).toNat) (d.V (d.P i).toNat)
def sumM (d : TrD) : Nat → Int
  | 0 => 0
  | k + 1 => sumM d k + sqM d k
def farM (d : TrD) : Nat → Nat
  | 0 => 0
  | k + 1 => if sqM d (farM d k) < sqM d k then k else farM d k
theorem farM_lt (d : TrD) : ∀ k, 0 < k → farM d k < k
  | 0, h => absurd h (by omega)
  | k + 1, _ => by
    unfold farM
    split
    · omega
    · rcases Nat.eq_zero_or_pos k with h | h
      · subst h; simp [farM]
      · have := farM_lt d k h; omega
theorem farM_max (d : TrD) : ∀ k i, i < k → sqM d i ≤ sqM d (farM d k)
  | 0, _, h => absurd h (by omega)
  | k + 1, i, h => by
    unfold farM
    by_cases e : i = k
    · subst e
      split <;> omega
    · have := farM_max d k i (by omega)
      split <;> omega
/-- What a valid transition's numbers obey. -/
structure TrOk (d : TrD) : Prop where
  n12 : d.n ≤ 12
  n1 : 1 ≤ d.n
  lp : d.l ≤ d.n ∧ d.n ≤ d.l
  mp : d.m ≤ d.n ∧ d.n ≤ d.m
  c1 : 1 ≤ d.c
  c64 : d.c ≤ 64
  sx : ∀ i, i < d.n → spotB (d.X i) (d.Y i) = true
  su : ∀ i, i < d.m → spotB (d.U i) (d.V i) = true
  pp : ∀ i, i < d.l → 0 ≤ d.P i ∧ d.P i < d.m
theorem TrOk.of {d : TrD} (h : trB d = true) : TrOk d := by
  obtain ⟨h1, h2, h3, h4, h5⟩ := trB_iff h
  obtain ⟨g1, g2⟩ := mtB_iff h5
  have k1 := chartB_iff.1 h1
  have k2 := chartB_iff.1 h2
  exact ⟨by omega, by omega, by omega, by omega, h4.1, h4.2, k1.2.1, k2.2.1, fun i hi => by have := g2 i hi; omega⟩
theorem sqM_bd {d : TrD} (h : TrOk d) {i : Nat} (hi : i < d.l) : 0 ≤ sqM d i ∧ sqM d i ≤ 2089984 :=
  sq_bd (h.sx i (by have := h.lp; omega)) (h.su _ (by have := h.pp i hi; omega))
theorem sumM_bd {d : TrD} (h : TrOk d) : ∀ k, k ≤ d.l → 0 ≤ sumM d k ∧ sumM d k ≤ 2089984 * k
  | 0, _ => by simp [sumM]
  | k + 1, hk => by
    have := sumM_bd h k (by omega)
    have := sqM_bd h (show k < d.l by omega)
    simp only [sumM]
    omega
theorem Cells5.mk' {w : World} {b : Nat} {a : Nat → Int} {p0 p1 p2 p3 p4 : Int} (e0 : a 0 = p0) (e1 : a 1 = p1) (e2 : a 2 = p2) (e3 : a 3 = p3) (e4 : a 4 = p4)
    (c0 : w.cell? ⟨b, 0, none⟩ = some (.int .i64 p0)) (c1 : w.cell? ⟨b, 1, none⟩ = some (.int .i64 p1)) (c2 : w.cell? ⟨b, 2, none⟩ = some (.int .i64 p2)) (c3 : w.cell? ⟨b, 3, none⟩ = some (.int .i64 p3)) (c4 : w.cell? ⟨b, 4, none⟩ = some (.int .i64 p4)) :
    Cells5 w b 0 a := by
  subst e0 e1 e2 e3 e4
  exact ⟨c0, c1, c2, c3, c4⟩
set_option maxRecDepth 100000 in
set_option maxHeartbeats 2000000 in
theorem movesOf_g (v : Value) (d : TrD) (w : World) (h : Trn w v d) (hd : TrOk d) : Calls Try.prog 120 #[v] w (AnsM w d.l (mvM d)) := by
  obtain ⟨f, t, p, rfl, hf, ht, hp⟩ := h
  have HF := Lib.hid hf
  have HT := Lib.hid ht
  have HP := Lib.hid hp
  obtain ⟨A1, c1, rfl, b1⟩ := hf.shape
  obtain ⟨A2, c2, rfl, b2⟩ := ht.shape
  obtain ⟨A3, c3, rfl, b3⟩ := hp.shape
  have HFr := Lib.hid (show 0 < d.n → ∃ b o, A1 = some ⟨b, o, none⟩ ∧ Row2 w b o d.n d.X d.Y by
    obtain ⟨A, c, e, _, hr⟩ := hf
    cases e; exact hr)
  have HTr := Lib.hid (show 0 < d.m → ∃ b o, A2 = some ⟨b, o, none⟩ ∧ Row2 w b o d.m d.U d.V by
    obtain ⟨A, c, e, _, hr⟩ := ht
    cases e; exact hr)
  have HPr := Lib.hid (show 0 < d.l → ∃ b o, A3 = some ⟨b, o, none⟩ ∧ Row1 w b o d.l d.P by
    obtain ⟨A, c, e, _, hr⟩ := hp
    cases e; exact hr)
  clear hf ht hp
  have HK := Lib.hid hd
  have l1 := hd.lp; have l2 := hd.mp; have l3 := hd.n12; have l4 := hd.n1; have l5 := hd.c1; have l6 := hd.c64
  clear hd

  go_enter Try.func120, Try.ntmps120
  go_wp2_with fail
  generalize hW : World.alloc w _ = W at *
  have hbW : Below w.heap.size w W := by subst hW; (repeat (first | with_reducible exact Below.refl _ _ | with_reducible assumption | with_reducible refine up_alloc ?_ _ | with_reducible refine up_drew ?_ | with_reducible refine up_drewN ?_ _ | (with_reducible refine up_set ?_ ?hset _; case hset => first | (simp; done) | (simp; omega) | omega) | with_reducible refine up_trans ?_ (by with_reducible assumption)))
  have k0 : W.cell? ⟨w.heap.size, 0, none⟩ = some (.slice A1 d.n c1) := by subst hW; simp [go_sem]
  have k1 : W.cell? ⟨w.heap.size, 1, none⟩ = some (.slice A2 d.m c2) := by subst hW; simp [go_sem]
  have k2 : W.cell? ⟨w.heap.size, 2, none⟩ = some (.int .i64 d.c) := by subst hW; simp [go_sem]
  have k3 : W.cell? ⟨w.heap.size, 3, none⟩ = some (.slice A3 d.l c3) := by subst hW; simp [go_sem]
  have HSZ := Lib.hid (show W.heap.size = w.heap.size + 1 by subst hW; simp)
  clear hW

  go_loopw [3, 10] (fun q i wr => ∃ k : Nat, k ≤ d.l ∧ i = .int .i64 k ∧ OwnNM W.heap.size wr q k (mvM d) ∧ Below W.heap.size W wr) (fun _ i _ => d.l - (intOf i).toNat)
  case atStart => exact ⟨0, by omega, rfl, by rw [← HSZ.out]; exact OwnNM.empty (Nat.le_refl _) _, below_alloc _ _⟩
  case round =>
    obtain ⟨k, hk, rfl, how, hb⟩ := hrel
    by_cases hlt : k < d.l
    · obtain ⟨j, hj⟩ : ∃ j : Nat, d.P k = j := ⟨(d.P k).toNat, by have := HK.out.pp k hlt; omega⟩
      have hjm : j < d.m := by have := HK.out.pp k hlt; omega
      obtain ⟨b4, o4, rfl, hr4⟩ := HFr.out (by omega)
      obtain ⟨b5, o5, rfl, hr5⟩ := HTr.out (by omega)
      obtain ⟨b6, o6, rfl, hr6⟩ := HPr.out (by omega)
      have x0 := up_keep hb (up_keep hbW (hr4 k (by omega)).1)
      have x1 := up_keep hb (up_keep hbW (hr4 k (by omega)).2)
      have x2 := up_keep hb (up_keep hbW (hr5 j hjm).1)
      have x3 := up_keep hb (up_keep hbW (hr5 j hjm).2)
      have x4 := up_keep hb (up_keep hbW (hr6 k hlt))
      rw [hj] at x4
      have q0 := up_keep hb k0; have q1 := up_keep hb k1; have q2 := up_keep hb k2
      have j1 : (j : Int) < (d.m : Int) := by omega
      have j2 : (k : Int) < (d.n : Int) := by omega
      have hjn : (d.P k).toNat = j := by omega
      have HM0 := Lib.hid (show mvM d k 0 = d.X k from rfl)
      have HM1 := Lib.hid (show mvM d k 1 = d.Y k from rfl)
      have HM2 := Lib.hid (show mvM d k 2 = d.U j by show d.U (d.P k).toNat = _; rw [hjn])
      have HM3 := Lib.hid (show mvM d k 3 = d.V j by show d.V (d.P k).toNat = _; rw [hjn])
      have HM4 := Lib.hid (show mvM d k 4 = d.c from rfl)
      have HR4 := Lib.hid hr4
      have HR5 := Lib.hid hr5
      clear hr4 hr5 hr6 hj hjn
      go_wp2_with fail
      go_region_held3 (fun w' => w'.cell? ⟨w.heap.size, 0, none⟩ = some (.slice (some ⟨b4, o4, none⟩) d.n c1) ∧ w'.cell? ⟨w.heap.size, 1, none⟩ = some (.slice (some ⟨b5, o5, none⟩) d.m c2) ∧ w'.cell? ⟨w.heap.size, 2, none⟩ = some (.int .i64 d.c) ∧ w'.cell? ⟨b4, o4 + k * 2, none⟩ = some (.int .i64 (d.X k)) ∧ w'.cell? ⟨b4, o4 + k * 2 + 1, none⟩ = some (.int .i64 (d.Y k)) ∧ w'.cell? ⟨b5, o5 + j * 2, none⟩ = some (.int .i64 (d.U j)) ∧ w'.cell? ⟨b5, o5 + j * 2 + 1, none⟩ = some (.int .i64 (d.V j)))
        (first | exact ⟨by assumption, by assumption, by assumption, by assumption, by assumption, by assumption, by assumption⟩ | go_keep)
        (first | (refine step_app_move rfl (.tmp 15) (.tmp 29) rfl W.heap.size _ k (mvM d) rfl rfl (Cells5.mk' HM0.out HM1.out HM2.out HM3.out HM4.out (by simp [go_sem]) (by simp [go_sem]) (by simp [go_sem]) (by simp [go_sem]) (by simp [go_sem])) (OwnNM.up how (by (repeat (first | with_reducible exact Below.refl _ _ | with_reducible assumption | with_reducible refine up_alloc ?_ _ | with_reducible refine up_drew ?_ | with_reducible refine up_drewN ?_ _ | (with_reducible refine up_set ?_ ?hset _; case hset => first | (simp; done) | (simp; omega) | omega) | with_reducible refine up_trans ?_ (by with_reducible assumption))))) (show Below W.heap.size W _ from (by (repeat (first | with_reducible exact Below.refl _ _ | with_reducible assumption | with_reducible refine up_alloc ?_ _ | with_reducible refine up_drew ?_ | with_reducible refine up_drewN ?_ _ | (with_reducible refine up_set ?_ ?hset _; case hset => first | (simp; done) | (simp; omega) | omega) | with_reducible refine up_trans ?_ (by with_reducible assumption))))).size (by omega) ?_; intro v2 w2 ho2 hb2 _ _; replace hb2 := (show Below W.heap.size W _ from (by (repeat (first | with_reducible exact Below.refl _ _ | with_reducible assumption | with_reducible refine up_alloc ?_ _ | with_reducible refine up_drew ?_ | with_reducible refine up_drewN ?_ _ | (with_reducible refine up_set ?_ ?hset _; case hset => first | (simp; done) | (simp; omega) | omega) | with_reducible refine up_trans ?_ (by with_reducible assumption))))).trans hb2; have y0 := up_keep hb2 k0; have y1 := up_keep hb2 k1; have y2 := up_keep hb2 k2; have y3 := up_keep hb2 (up_keep hbW (HR4.out k (by omega)).1); have y4 := up_keep hb2 (up_keep hbW (HR4.out k (by omega)).2); have y5 := up_keep hb2 (up_keep hbW (HR5.out j hjm).1); have y6 := up_keep hb2 (up_keep hbW (HR5.out j hjm).2)))
      go_wp2_with fail
      go_roundw
      case rel => exact ⟨k + 1, by omega, by go_num, ho2, hb2⟩
      case measure => simp [intOf]; omega
    · have e : k = d.l := by omega
      subst e
      go_wp2_with fail
      go_ret
      exact ⟨_, rfl, how.ownM.more hbW.size, hbW.trans (hb.mono hbW.size)⟩
set_option maxRecDepth 100000 in
set_option maxHeartbeats 2000000 in
theorem asMoves_g (v : Value) (d : TrD) (w : World) (h : Trn w v d) (hd : TrOk d) : Calls Try.prog 116 #[v] w (AnsM w d.l (mvM d)) := by
  obtain ⟨f, t, p, rfl, hf, ht, hp⟩ := h
  have HF := Lib.hid hf
  have HT := Lib.hid ht
  have HP := Lib.hid hp
  obtain ⟨A1, c1, rfl, b1⟩ := hf.shape
  obtain ⟨A2, c2, rfl, b2⟩ := ht.shape
  obtain ⟨A3, c3, rfl, b3⟩ := hp.shape
  have HFr := Lib.hid (show 0 < d.n → ∃ b o, A1 = some ⟨b, o, none⟩ ∧ Row2 w b o d.n d.X d.Y by
    obtain ⟨A, c, e, _, hr⟩ := hf
    cases e; exact hr)
  have HTr := Lib.hid (show 0 < d.m → ∃ b o, A2 = some ⟨b, o, none⟩ ∧ Row2 w b o d.m d.U d.V by
    obtain ⟨A, c, e, _, hr⟩ := ht
    cases e; exact hr)
  have HPr := Lib.hid (show 0 < d.l → ∃ b o, A3 = some ⟨b, o, none⟩ ∧ Row1 w b o d.l d.P by
    obtain ⟨A, c, e, _, hr⟩ := hp
    cases e; exact hr)
  clear hf ht hp
  have HK := Lib.hid hd
  have l1 := hd.lp; have l2 := hd.mp; have l3 := hd.n12; have l4 := hd.n1; have l5 := hd.c1; have l6 := hd.c64
  clear hd

  go_enter Try.func116, Try.ntmps116
  go_wp2_with fail
  generalize hW : World.alloc w _ = W at *
  have hbW : Below w.heap.size w W := by subst hW; (repeat (first | with_reducible exact Below.refl _ _ | with_reducible assumption | with_reducible refine up_alloc ?_ _ | with_reducible refine up_drew ?_ | with_reducible refine up_drewN ?_ _ | (with_reducible refine up_set ?_ ?hset _; case hset => first | (simp; done) | (simp; omega) | omega) | with_reducible refine up_trans ?_ (by with_reducible assumption)))
  have k0 : W.cell? ⟨w.heap.size, 0, none⟩ = some (.slice A1 d.n c1) := by subst hW; simp [go_sem]
  have k1 : W.cell? ⟨w.heap.size, 1, none⟩ = some (.slice A2 d.m c2) := by subst hW; simp [go_sem]
  have k2 : W.cell? ⟨w.heap.size, 2, none⟩ = some (.int .i64 d.c) := by subst hW; simp [go_sem]
  have k3 : W.cell? ⟨w.heap.size, 3, none⟩ = some (.slice A3 d.l c3) := by subst hW; simp [go_sem]
  have HSZ := Lib.hid (show W.heap.size = w.heap.size + 1 by subst hW; simp)
  clear hW

  go_loopw [3, 9] (fun q i wr => ∃ k : Nat, k ≤ d.l ∧ i = .int .i64 k ∧ OwnNM W.heap.size wr q k (mvM d) ∧ Below W.heap.size W wr) (fun _ i _ => d.l - (intOf i).toNat)
  case atStart => exact ⟨0, by omega, rfl, OwnNM.nil _ _ _, Below.refl _ _⟩
  case round =>
    obtain ⟨k, hk, rfl, how, hb⟩ := hrel
    by_cases hlt : k < d.l
    · obtain ⟨j, hj⟩ : ∃ j : Nat, d.P k = j := ⟨(d.P k).toNat, by have := HK.out.pp k hlt; omega⟩
      have hjm : j < d.m := by have := HK.out.pp k hlt; omega
      obtain ⟨b4, o4, rfl, hr4⟩ := HFr.out (by omega)
      obtain ⟨b5, o5, rfl, hr5⟩ := HTr.out (by omega)
      obtain ⟨b6, o6, rfl, hr6⟩ := HPr.out (by omega)
      have x0 := up_keep hb (up_keep hbW (hr4 k (by omega)).1)
      have x1 := up_keep hb (up_keep hbW (hr4 k (by omega)).2)
      have x2 := up_keep hb (up_keep hbW (hr5 j hjm).1)
      have x3 := up_keep hb (up_keep hbW (hr5 j hjm).2)
      have x4 := up_keep hb (up_keep hbW (hr6 k hlt))
      rw [hj] at x4
      have q0 := up_keep hb k0; have q1 := up_keep hb k1; have q2 := up_keep hb k2
      have j1 : (j : Int) < (d.m : Int) := by omega
      have j2 : (k : Int) < (d.n : Int) := by omega
      have hjn : (d.P k).toNat = j := by omega
      have HM0 := Lib.hid (show mvM d k 0 = d.X k from rfl)
      have HM1 := Lib.hid (show mvM d k 1 = d.Y k from rfl)
      have HM2 := Lib.hid (show mvM d k 2 = d.U j by show d.U (d.P k).toNat = _; rw [hjn])
      have HM3 := Lib.hid (show mvM d k 3 = d.V j by show d.V (d.P k).toNat = _; rw [hjn])
      have HM4 := Lib.hid (show mvM d k 4 = d.c from rfl)
      have HR4 := Lib.hid hr4
      have HR5 := Lib.hid hr5
      clear hr4 hr5 hr6 hj hjn
      go_wp2_with fail
      go_region_held3 (fun w' => w'.cell? ⟨w.heap.size, 0, none⟩ = some (.slice (some ⟨b4, o4, none⟩) d.n c1) ∧ w'.cell? ⟨w.heap.size, 1, none⟩ = some (.slice (some ⟨b5, o5, none⟩) d.m c2) ∧ w'.cell? ⟨w.heap.size, 2, none⟩ = some (.int .i64 d.c) ∧ w'.cell? ⟨b4, o4 + k * 2, none⟩ = some (.int .i64 (d.X k)) ∧ w'.cell? ⟨b4, o4 + k * 2 + 1, none⟩ = some (.int .i64 (d.Y k)) ∧ w'.cell? ⟨b5, o5 + j * 2, none⟩ = some (.int .i64 (d.U j)) ∧ w'.cell? ⟨b5, o5 + j * 2 + 1, none⟩ = some (.int .i64 (d.V j)))
        (first | exact ⟨by assumption, by assumption, by assumption, by assumption, by assumption, by assumption, by assumption⟩ | go_keep)
        (first | (refine step_app_move rfl (.tmp 14) (.tmp 28) rfl W.heap.size _ k (mvM d) rfl rfl (Cells5.mk' HM0.out HM1.out HM2.out HM3.out HM4.out (by simp [go_sem]) (by simp [go_sem]) (by simp [go_sem]) (by simp [go_sem]) (by simp [go_sem])) (OwnNM.up how (by (repeat (first | with_reducible exact Below.refl _ _ | with_reducible assumption | with_reducible refine up_alloc ?_ _ | with_reducible refine up_drew ?_ | with_reducible refine up_drewN ?_ _ | (with_reducible refine up_set ?_ ?hset _; case hset => first | (simp; done) | (simp; omega) | omega) | with_reducible refine up_trans ?_ (by with_reducible assumption))))) (show Below W.heap.size W _ from (by (repeat (first | with_reducible exact Below.refl _ _ | with_reducible assumption | with_reducible refine up_alloc ?_ _ | with_reducible refine up_drew ?_ | with_reducible refine up_drewN ?_ _ | (with_reducible refine up_set ?_ ?hset _; case hset => first | (simp; done) | (simp; omega) | omega) | with_reducible refine up_trans ?_ (by with_reducible assumption))))).size (by omega) ?_; intro v2 w2 ho2 hb2 _ _; replace hb2 := (show Below W.heap.size W _ from (by (repeat (first | with_reducible exact Below.refl _ _ | with_reducible assumption | with_reducible refine up_alloc ?_ _ | with_reducible refine up_drew ?_ | with_reducible refine up_drewN ?_ _ | (with_reducible refine up_set ?_ ?hset _; case hset => first | (simp; done) | (simp; omega) | omega) | with_reducible refine up_trans ?_ (by with_reducible assumption))))).trans hb2; have y0 := up_keep hb2 k0; have y1 := up_keep hb2 k1; have y2 := up_keep hb2 k2; have y3 := up_keep hb2 (up_keep hbW (HR4.out k (by omega)).1); have y4 := up_keep hb2 (up_keep hbW (HR4.out k (by omega)).2); have y5 := up_keep hb2 (up_keep hbW (HR5.out j hjm).1); have y6 := up_keep hb2 (up_keep hbW (HR5.out j hjm).2)))
      go_wp2_with fail
      go_roundw
      case rel => exact ⟨k + 1, by omega, by go_num, ho2, hb2⟩
      case measure => simp [intOf]; omega
    · have e : k = d.l := by omega
      subst e
      go_wp2_with fail
      go_ret
      exact ⟨_, rfl, how.ownM.more hbW.size, hbW.trans (hb.mono hbW.size)⟩
set_option maxRecDepth 100000 in
set_option maxHeartbeats 2000000 in
theorem squareSum_g (v : Value) (d : TrD) (w : World) (h : Trn w v d) (hd : TrOk d) : Calls Try.prog 127 #[v] w (Ans w (.int .i64 (sumM d d.l))) := by
  obtain ⟨f, t, p, rfl, hf, ht, hp⟩ := h
  have HF := Lib.hid hf
  have HT := Lib.hid ht
  have HP := Lib.hid hp
  obtain ⟨A1, c1, rfl, b1⟩ := hf.shape
  obtain ⟨A2, c2, rfl, b2⟩ := ht.shape
  obtain ⟨A3, c3, rfl, b3⟩ := hp.shape
  have HFr := Lib.hid (show 0 < d.n → ∃ b o, A1 = some ⟨b, o, none⟩ ∧ Row2 w b o d.n d.X d.Y by
    obtain ⟨A, c, e, _, hr⟩ := hf
    cases e; exact hr)
  have HTr := Lib.hid (show 0 < d.m → ∃ b o, A2 = some ⟨b, o, none⟩ ∧ Row2 w b o d.m d.U d.V by
    obtain ⟨A, c, e, _, hr⟩ := ht
    cases e; exact hr)
  have HPr := Lib.hid (show 0 < d.l → ∃ b o, A3 = some ⟨b, o, none⟩ ∧ Row1 w b o d.l d.P by
    obtain ⟨A, c, e, _, hr⟩ := hp
    cases e; exact hr)
  clear hf ht hp
  have HK := Lib.hid hd
  have l1 := hd.lp; have l2 := hd.mp; have l3 := hd.n12; have l4 := hd.n1; have l5 := hd.c1; have l6 := hd.c64
  clear hd

  go_enter Try.func127, Try.ntmps127
  go_wp2_with fail
  generalize hW : World.alloc w _ = W at *
  have hbW : Below w.heap.size w W := by subst hW; (repeat (first | with_reducible exact Below.refl _ _ | with_reducible assumption | with_reducible refine up_alloc ?_ _ | with_reducible refine up_drew ?_ | with_reducible refine up_drewN ?_ _ | (with_reducible refine up_set ?_ ?hset _; case hset => first | (simp; done) | (simp; omega) | omega) | with_reducible refine up_trans ?_ (by with_reducible assumption)))
  have k0 : W.cell? ⟨w.heap.size, 0, none⟩ = some (.slice A1 d.n c1) := by subst hW; simp [go_sem]
  have k1 : W.cell? ⟨w.heap.size, 1, none⟩ = some (.slice A2 d.m c2) := by subst hW; simp [go_sem]
  have k2 : W.cell? ⟨w.heap.size, 2, none⟩ = some (.int .i64 d.c) := by subst hW; simp [go_sem]
  have k3 : W.cell? ⟨w.heap.size, 3, none⟩ = some (.slice A3 d.l c3) := by subst hW; simp [go_sem]
  have HSZ := Lib.hid (show W.heap.size = w.heap.size + 1 by subst hW; simp)
  clear hW

  go_loopw [3, 9] (fun s i wr => ∃ k : Nat, k ≤ d.l ∧ i = .int .i64 k ∧ s = .int .i64 (sumM d k) ∧ Below W.heap.size W wr) (fun _ i _ => d.l - (intOf i).toNat)
  case atStart => exact ⟨0, by omega, rfl, rfl, Below.refl _ _⟩
  case round =>
    obtain ⟨k, hk, rfl, rfl, hb⟩ := hrel
    by_cases hlt : k < d.l
    · obtain ⟨j, hj⟩ : ∃ j : Nat, d.P k = j := ⟨(d.P k).toNat, by have := HK.out.pp k hlt; omega⟩
      have hjm : j < d.m := by have := HK.out.pp k hlt; omega
      obtain ⟨b4, o4, rfl, hr4⟩ := HFr.out (by omega)
      obtain ⟨b5, o5, rfl, hr5⟩ := HTr.out (by omega)
      obtain ⟨b6, o6, rfl, hr6⟩ := HPr.out (by omega)
      have x0 := up_keep hb (up_keep hbW (hr4 k (by omega)).1)
      have x1 := up_keep hb (up_keep hbW (hr4 k (by omega)).2)
      have x2 := up_keep hb (up_keep hbW (hr5 j hjm).1)
      have x3 := up_keep hb (up_keep hbW (hr5 j hjm).2)
      have x4 := up_keep hb (up_keep hbW (hr6 k hlt))
      rw [hj] at x4
      have q0 := up_keep hb k0; have q1 := up_keep hb k1; have q2 := up_keep hb k2
      have j1 : (j : Int) < (d.m : Int) := by omega
      have j2 : (k : Int) < (d.n : Int) := by omega
      have hjn : (d.P k).toNat = j := by omega
      have HC := Lib.hid (squareOf_any (d.X k) (d.Y k) (d.U j) (d.V j) (HK.out.sx k (by omega)) (HK.out.su j hjm))
      have hs := sqM_bd HK.out hlt
      have hm := sumM_bd HK.out k hk
      have HS := Lib.hid (show sumM d (k + 1) = sumM d k + sqM d k from rfl)
      rw [show sqM d k = sq (d.X k) (d.Y k) (d.U j) (d.V j) by unfold sqM; rw [hjn]] at hs HS
      clear hr4 hr5 hr6 hj hjn
      go_wp2_with fail
      replace x0 := cell_regrown x0
      replace x1 := cell_regrown x1
      replace x2 := cell_regrown x2
      replace x3 := cell_regrown x3
      replace q0 := cell_regrown q0
      replace q1 := cell_regrown q1

      have hz0 : IntKind.i64.wrap (sumM d k + sq (d.X k) (d.Y k) (d.U j) (d.V j)) = sumM d k + sq (d.X k) (d.Y k) (d.U j) (d.V j) := IntWalk.i64_in _ (by omega)
      refine wp_region_up (by kernel_rfl) (by kernel_rfl) ?_
      repeat (go_big_quiet_step (exact up_of (fun W hW => HC.out W) _ _))
      refine wpQuiet_nil ?_
      intro w1 hb0
      obtain ⟨hc0, hf0⟩ := bcell hb0
      clear hz0
      go_wp2_with fail
      go_roundw
      case rel => exact ⟨k + 1, by omega, by go_num, by rw [HS.out], hb.trans (hb0.mono hb.size)⟩
      case measure => simp [intOf]; omega
    · have e : k = d.l := by omega
      subst e
      go_wp2_with fail
      go_ret
      exact ⟨rfl, hbW.trans (hb.mono hbW.size)⟩
set_option maxRecDepth 100000 in
set_option maxHeartbeats 2000000 in
theorem asSum_g (v : Value) (d : TrD) (w : World) (h : Trn w v d) (hd : TrOk d) : Calls Try.prog 126 #[v] w (Ans w (.int .i64 (sumM d d.l))) := by
  obtain ⟨f, t, p, rfl, hf, ht, hp⟩ := h
  have HF := Lib.hid hf
  have HT := Lib.hid ht
  have HP := Lib.hid hp
  obtain ⟨A1, c1, rfl, b1⟩ := hf.shape
  obtain ⟨A2, c2, rfl, b2⟩ := ht.shape
  obtain ⟨A3, c3, rfl, b3⟩ := hp.shape
  have HFr := Lib.hid (show 0 < d.n → ∃ b o, A1 = some ⟨b, o, none⟩ ∧ Row2 w b o d.n d.X d.Y by
    obtain ⟨A, c, e, _, hr⟩ := hf
    cases e; exact hr)
  have HTr := Lib.hid (show 0 < d.m → ∃ b o, A2 = some ⟨b, o, none⟩ ∧ Row2 w b o d.m d.U d.V by
    obtain ⟨A, c, e, _, hr⟩ := ht
    cases e; exact hr)
  have HPr := Lib.hid (show 0 < d.l → ∃ b o, A3 = some ⟨b, o, none⟩ ∧ Row1 w b o d.l d.P by
    obtain ⟨A, c, e, _, hr⟩ := hp
    cases e; exact hr)
  clear hf ht hp
  have HK := Lib.hid hd
  have l1 := hd.lp; have l2 := hd.mp; have l3 := hd.n12; have l4 := hd.n1; have l5 := hd.c1; have l6 := hd.c64
  clear hd

  have HA := Lib.hid (fun W (hW : Below w.heap.size w W) => asMoves_g _ d W ⟨_, _, _, rfl, HF.out.up hW, HT.out.up hW, HP.out.up hW⟩ HK.out)
  go_enter Try.func126, Try.ntmps126
  go_wp2_with fail
  generalize hW : World.alloc w _ = W at *
  have hbW : Below w.heap.size w W := by subst hW; (repeat (first | with_reducible exact Below.refl _ _ | with_reducible assumption | with_reducible refine up_alloc ?_ _ | with_reducible refine up_drew ?_ | with_reducible refine up_drewN ?_ _ | (with_reducible refine up_set ?_ ?hset _; case hset => first | (simp; done) | (simp; omega) | omega) | with_reducible refine up_trans ?_ (by with_reducible assumption)))
  have k0 : W.cell? ⟨w.heap.size, 0, none⟩ = some (.slice A1 d.n c1) := by subst hW; simp [go_sem]
  have k1 : W.cell? ⟨w.heap.size, 1, none⟩ = some (.slice A2 d.m c2) := by subst hW; simp [go_sem]
  have k2 : W.cell? ⟨w.heap.size, 2, none⟩ = some (.int .i64 d.c) := by subst hW; simp [go_sem]
  have k3 : W.cell? ⟨w.heap.size, 3, none⟩ = some (.slice A3 d.l c3) := by subst hW; simp [go_sem]
  have HSZ := Lib.hid (show W.heap.size = w.heap.size + 1 by subst hW; simp)
  clear hW

  refine (HA.out _ hbW).mono ?_
  rintro e W1 ⟨ms, rfl, hms, hb1⟩
  obtain ⟨A, c, rfl, hnc, hrow⟩ := hms
  have hbW1 := up_trans hbW hb1
  go_wp2_with fail
  go_loopw [3, 9] (fun s i wr => ∃ k : Nat, k ≤ d.l ∧ i = .int .i64 k ∧ s = .int .i64 (sumM d k) ∧ Below W1.heap.size W1 wr) (fun _ i _ => d.l - (intOf i).toNat)
  case atStart => exact ⟨0, by omega, rfl, rfl, Below.refl _ _⟩
  case round =>
    obtain ⟨k, hk, rfl, rfl, hb⟩ := hrel
    by_cases hlt : k < d.l
    · obtain ⟨b, o, rfl, _, _, hr⟩ := hrow (by omega)
      obtain ⟨x0, x1, x2, x3, x4⟩ := (hr k hlt).up hb
      obtain ⟨j, hj⟩ : ∃ j : Nat, d.P k = j := ⟨(d.P k).toNat, by have := HK.out.pp k hlt; omega⟩
      have hjm : j < d.m := by have := HK.out.pp k hlt; omega
      have hjn : (d.P k).toNat = j := by omega
      have HC := Lib.hid (stSquare_any (d.X k) (d.Y k) (d.U j) (d.V j) (HK.out.sx k (by omega)) (HK.out.su j hjm))
      have hs := sqM_bd HK.out hlt
      have hm := sumM_bd HK.out k hk
      have HS := Lib.hid (show sumM d (k + 1) = sumM d k + sqM d k from rfl)
      rw [show sqM d k = sq (d.X k) (d.Y k) (d.U j) (d.V j) by unfold sqM; rw [hjn]] at hs HS
      rw [show mvM d k 0 = d.X k from rfl] at x0
      rw [show mvM d k 1 = d.Y k from rfl] at x1
      rw [show mvM d k 2 = d.U j by show d.U (d.P k).toNat = _; rw [hjn]] at x2
      rw [show mvM d k 3 = d.V j by show d.V (d.P k).toNat = _; rw [hjn]] at x3
      rw [show mvM d k 4 = d.c from rfl] at x4
      clear hr hrow hj hjn
      go_wp2_with (go_at_call 208; refine (HC.out _).mono ?_; rintro e w3 ⟨rfl, hb3⟩)
      go_roundw
      case rel => exact ⟨k + 1, by omega, by go_num, by rw [HS.out], by (repeat (first | with_reducible exact Below.refl _ _ | with_reducible assumption | with_reducible refine up_alloc ?_ _ | with_reducible refine up_drew ?_ | with_reducible refine up_drewN ?_ _ | (with_reducible refine up_set ?_ ?hset _; case hset => first | (simp; done) | (simp; omega) | omega) | with_reducible refine up_trans ?_ (by with_reducible assumption)))⟩
      case measure => simp [intOf]; omega
    · have e : k = d.l := by omega
      subst e
      go_wp2_with fail
      go_ret
      exact ⟨rfl, hbW1.trans (hb.mono hbW1.size)⟩
set_option maxRecDepth 100000 in
set_option maxHeartbeats 4000000 in
theorem farthestMove_g (v : Value) (d : TrD) (w : World) (h : Trn w v d) (hd : TrOk d) : Calls Try.prog 129 #[v] w (Ans w (.int .i64 (farM d d.l : Nat))) := by
  obtain ⟨f, t, p, rfl, hf, ht, hp⟩ := h
  have HF := Lib.hid hf
  have HT := Lib.hid ht
  have HP := Lib.hid hp
  obtain ⟨A1, c1, rfl, b1⟩ := hf.shape
  obtain ⟨A2, c2, rfl, b2⟩ := ht.shape
  obtain ⟨A3, c3, rfl, b3⟩ := hp.shape
  have HFr := Lib.hid (show 0 < d.n → ∃ b o, A1 = some ⟨b, o, none⟩ ∧ Row2 w b o d.n d.X d.Y by
    obtain ⟨A, c, e, _, hr⟩ := hf
    cases e; exact hr)
  have HTr := Lib.hid (show 0 < d.m → ∃ b o, A2 = some ⟨b, o, none⟩ ∧ Row2 w b o d.m d.U d.V by
    obtain ⟨A, c, e, _, hr⟩ := ht
    cases e; exact hr)
  have HPr := Lib.hid (show 0 < d.l → ∃ b o, A3 = some ⟨b, o, none⟩ ∧ Row1 w b o d.l d.P by
    obtain ⟨A, c, e, _, hr⟩ := hp
    cases e; exact hr)
  clear hf ht hp
  have HK := Lib.hid hd
  have l1 := hd.lp; have l2 := hd.mp; have l3 := hd.n12; have l4 := hd.n1; have l5 := hd.c1; have l6 := hd.c64
  clear hd

  go_enter Try.func129, Try.ntmps129
  go_wp2_with fail
  generalize hW : World.alloc w _ = W at *
  have hbW : Below w.heap.size w W := by subst hW; (repeat (first | with_reducible exact Below.refl _ _ | with_reducible assumption | with_reducible refine up_alloc ?_ _ | with_reducible refine up_drew ?_ | with_reducible refine up_drewN ?_ _ | (with_reducible refine up_set ?_ ?hset _; case hset => first | (simp; done) | (simp; omega) | omega) | with_reducible refine up_trans ?_ (by with_reducible assumption)))
  have k0 : W.cell? ⟨w.heap.size, 0, none⟩ = some (.slice A1 d.n c1) := by subst hW; simp [go_sem]
  have k1 : W.cell? ⟨w.heap.size, 1, none⟩ = some (.slice A2 d.m c2) := by subst hW; simp [go_sem]
  have k2 : W.cell? ⟨w.heap.size, 2, none⟩ = some (.int .i64 d.c) := by subst hW; simp [go_sem]
  have k3 : W.cell? ⟨w.heap.size, 3, none⟩ = some (.slice A3 d.l c3) := by subst hW; simp [go_sem]
  have HSZ := Lib.hid (show W.heap.size = w.heap.size + 1 by subst hW; simp)
  clear hW

  go_loopw [3, 9] (fun s i wr => ∃ k : Nat, k ≤ d.l ∧ i = .int .i64 k ∧ s = .int .i64 (farM d k : Nat) ∧ Below W.heap.size W wr) (fun _ i _ => d.l - (intOf i).toNat)
  case atStart => exact ⟨0, by omega, rfl, rfl, Below.refl _ _⟩
  case round =>
    obtain ⟨k, hk, rfl, rfl, hb⟩ := hrel
    by_cases hlt : k < d.l
    · obtain ⟨j, hj⟩ : ∃ j : Nat, d.P k = j := ⟨(d.P k).toNat, by have := HK.out.pp k hlt; omega⟩
      have hjm : j < d.m := by have := HK.out.pp k hlt; omega
      obtain ⟨b4, o4, rfl, hr4⟩ := HFr.out (by omega)
      obtain ⟨b5, o5, rfl, hr5⟩ := HTr.out (by omega)
      obtain ⟨b6, o6, rfl, hr6⟩ := HPr.out (by omega)
      have x0 := up_keep hb (up_keep hbW (hr4 k (by omega)).1)
      have x1 := up_keep hb (up_keep hbW (hr4 k (by omega)).2)
      have x2 := up_keep hb (up_keep hbW (hr5 j hjm).1)
      have x3 := up_keep hb (up_keep hbW (hr5 j hjm).2)
      have x4 := up_keep hb (up_keep hbW (hr6 k hlt))
      rw [hj] at x4
      have q0 := up_keep hb k0; have q1 := up_keep hb k1; have q2 := up_keep hb k2
      have j1 : (j : Int) < (d.m : Int) := by omega
      have j2 : (k : Int) < (d.n : Int) := by omega
      have hjn : (d.P k).toNat = j := by omega
      obtain ⟨g, hg⟩ : ∃ g, farM d k = g := ⟨_, rfl⟩
      have hgl : g < d.l := by
        rcases Nat.eq_zero_or_pos k with h | h
        · subst h; rw [← hg]; exact hlt
        · have := farM_lt d k h; omega
      obtain ⟨j', hj'⟩ : ∃ j : Nat, d.P g = j := ⟨(d.P g).toNat, by have := HK.out.pp g hgl; omega⟩
      have hjm' : j' < d.m := by have := HK.out.pp g hgl; omega
      have hjn' : (d.P g).toNat = j' := by omega
      have y0 := up_keep hb (up_keep hbW (hr4 g (by omega)).1)
      have y1 := up_keep hb (up_keep hbW (hr4 g (by omega)).2)
      have y2 := up_keep hb (up_keep hbW (hr5 j' hjm').1)
      have y3 := up_keep hb (up_keep hbW (hr5 j' hjm').2)
      have y4 := up_keep hb (up_keep hbW (hr6 g hgl))
      rw [hj'] at y4
      have q3 := up_keep hb k3
      have j3 : (j' : Int) < (d.m : Int) := by omega
      have j4 : (g : Int) < (d.n : Int) := by omega
      have j5 : (g : Int) < (d.l : Int) := by omega
      have HC := Lib.hid (squareOf_any (d.X k) (d.Y k) (d.U j) (d.V j) (HK.out.sx k (by omega)) (HK.out.su j hjm))
      have HC' := Lib.hid (squareOf_any (d.X g) (d.Y g) (d.U j') (d.V j') (HK.out.sx g (by omega)) (HK.out.su j' hjm'))
      have HFm := Lib.hid (show farM d (k + 1) = if sq (d.X g) (d.Y g) (d.U j') (d.V j') < sq (d.X k) (d.Y k) (d.U j) (d.V j) then k else g by
        show (if sqM d (farM d k) < sqM d k then k else farM d k) = _
        rw [hg]; unfold sqM; rw [hjn, hjn'])
      rw [hg]
      clear hr4 hr5 hr6 hj hjn hj' hjn' hg
      go_wp2_with fail
      replace x0 := cell_regrown x0
      replace x1 := cell_regrown x1
      replace x2 := cell_regrown x2
      replace x3 := cell_regrown x3
      replace y0 := cell_regrown y0
      replace y1 := cell_regrown y1
      replace y2 := cell_regrown y2
      replace y3 := cell_regrown y3
      replace y4 := cell_regrown y4
      replace q0 := cell_regrown q0
      replace q1 := cell_regrown q1
      replace q3 := cell_regrown q3

      by_cases hlt2 : sq (d.X g) (d.Y g) (d.U j') (d.V j') < sq (d.X k) (d.Y k) (d.U j) (d.V j)
      · have hdec : decide (sq (d.X g) (d.Y g) (d.U j') (d.V j') < sq (d.X k) (d.Y k) (d.U j) (d.V j)) = true := by simpa using hlt2
        refine wp_region_up (by kernel_rfl) (by kernel_rfl) ?_
        repeat (go_big_quiet_step (first | (with_reducible exact up_of (fun W hW => HC.out W) _ _) | (with_reducible exact up_of (fun W hW => HC'.out W) _ _)))
        refine wpQuiet_nil ?_
        intro w1 hb0
        obtain ⟨hc0, hf0⟩ := bcell hb0
        go_wp2_with fail
        go_roundw
        case rel => exact ⟨k + 1, by omega, by go_num, by rw [HFm.out, if_pos hlt2], hb.trans (hb0.mono hb.size)⟩
        case measure => simp [intOf]; omega
      · have hdec : decide (sq (d.X g) (d.Y g) (d.U j') (d.V j') < sq (d.X k) (d.Y k) (d.U j) (d.V j)) = false := by simpa using hlt2
        refine wp_region_up (by kernel_rfl) (by kernel_rfl) ?_
        repeat (go_big_quiet_step (first | (with_reducible exact up_of (fun W hW => HC.out W) _ _) | (with_reducible exact up_of (fun W hW => HC'.out W) _ _)))
        refine wpQuiet_nil ?_
        intro w1 hb0
        obtain ⟨hc0, hf0⟩ := bcell hb0
        go_wp2_with fail
        go_roundw
        case rel => exact ⟨k + 1, by omega, by go_num, by rw [HFm.out, if_neg hlt2], hb.trans (hb0.mono hb.size)⟩
        case measure => simp [intOf]; omega
    · have e : k = d.l := by omega
      subst e
      go_wp2_with fail
      go_ret
      exact ⟨rfl, hbW.trans (hb.mono hbW.size)⟩
/-- The greatest square so far, -1 at first. -/
def mostM (d : TrD) (k : Nat) : Int := if k = 0 then -1 else sqM d (farM d k)
theorem farM_step {d : TrD} (h : TrOk d) {k : Nat} (hk : k < d.l) : (mostM d k < sqM d k → farM d (k + 1) = k ∧ mostM d (k + 1) = sqM d k) ∧ (¬ mostM d k < sqM d k → farM d (k + 1) = farM d k ∧ mostM d (k + 1) = mostM d k) := by
  have h0 := sqM_bd h hk
  unfold mostM
  rw [if_neg (show ¬ k + 1 = 0 by omega)]
  by_cases e : k = 0
  · subst e
    rw [if_pos rfl]
    have e2 : farM d (0 + 1) = 0 := by show (if sqM d 0 < sqM d 0 then 0 else 0) = 0; split <;> rfl
    rw [e2]
    exact ⟨fun _ => ⟨rfl, rfl⟩, fun hh => absurd hh (by omega)⟩
  · rw [if_neg e]
    have e2 : farM d (k + 1) = if sqM d (farM d k) < sqM d k then k else farM d k := rfl
    rw [e2]
    refine ⟨fun hh => ?_, fun hh => ?_⟩
    · rw [if_pos hh]; exact ⟨rfl, rfl⟩
    · rw [if_neg hh]; exact ⟨rfl, rfl⟩
set_option maxRecDepth 100000 in
set_option maxHeartbeats 2000000 in
theorem asFarthest_g (v : Value) (d : TrD) (w : World) (h : Trn w v d) (hd : TrOk d) : Calls Try.prog 128 #[v] w (Ans w (.int .i64 (farM d d.l : Nat))) := by
  obtain ⟨f, t, p, rfl, hf, ht, hp⟩ := h
  have HF := Lib.hid hf
  have HT := Lib.hid ht
  have HP := Lib.hid hp
  obtain ⟨A1, c1, rfl, b1⟩ := hf.shape
  obtain ⟨A2, c2, rfl, b2⟩ := ht.shape
  obtain ⟨A3, c3, rfl, b3⟩ := hp.shape
  have HFr := Lib.hid (show 0 < d.n → ∃ b o, A1 = some ⟨b, o, none⟩ ∧ Row2 w b o d.n d.X d.Y by
    obtain ⟨A, c, e, _, hr⟩ := hf
    cases e; exact hr)
  have HTr := Lib.hid (show 0 < d.m → ∃ b o, A2 = some ⟨b, o, none⟩ ∧ Row2 w b o d.m d.U d.V by
    obtain ⟨A, c, e, _, hr⟩ := ht
    cases e; exact hr)
  have HPr := Lib.hid (show 0 < d.l → ∃ b o, A3 = some ⟨b, o, none⟩ ∧ Row1 w b o d.l d.P by
    obtain ⟨A, c, e, _, hr⟩ := hp
    cases e; exact hr)
  clear hf ht hp
  have HK := Lib.hid hd
  have l1 := hd.lp; have l2 := hd.mp; have l3 := hd.n12; have l4 := hd.n1; have l5 := hd.c1; have l6 := hd.c64
  clear hd

  have HA := Lib.hid (fun W (hW : Below w.heap.size w W) => asMoves_g _ d W ⟨_, _, _, rfl, HF.out.up hW, HT.out.up hW, HP.out.up hW⟩ HK.out)
  go_enter Try.func128, Try.ntmps128
  go_wp2_with fail
  generalize hW : World.alloc w _ = W at *
  have hbW : Below w.heap.size w W := by subst hW; (repeat (first | with_reducible exact Below.refl _ _ | with_reducible assumption | with_reducible refine up_alloc ?_ _ | with_reducible refine up_drew ?_ | with_reducible refine up_drewN ?_ _ | (with_reducible refine up_set ?_ ?hset _; case hset => first | (simp; done) | (simp; omega) | omega) | with_reducible refine up_trans ?_ (by with_reducible assumption)))
  have k0 : W.cell? ⟨w.heap.size, 0, none⟩ = some (.slice A1 d.n c1) := by subst hW; simp [go_sem]
  have k1 : W.cell? ⟨w.heap.size, 1, none⟩ = some (.slice A2 d.m c2) := by subst hW; simp [go_sem]
  have k2 : W.cell? ⟨w.heap.size, 2, none⟩ = some (.int .i64 d.c) := by subst hW; simp [go_sem]
  have k3 : W.cell? ⟨w.heap.size, 3, none⟩ = some (.slice A3 d.l c3) := by subst hW; simp [go_sem]
  have HSZ := Lib.hid (show W.heap.size = w.heap.size + 1 by subst hW; simp)
  clear hW

  refine (HA.out _ hbW).mono ?_
  rintro e W1 ⟨ms, rfl, hms, hb1⟩
  obtain ⟨A, c, rfl, hnc, hrow⟩ := hms
  have hbW1 := up_trans hbW hb1
  go_wp2_with fail
  go_loopw [3, 4, 11] (fun s q i wr => ∃ k : Nat, k ≤ d.l ∧ i = .int .i64 k ∧ s = .int .i64 (farM d k : Nat) ∧ q = .int .i64 (mostM d k) ∧ Below W1.heap.size W1 wr) (fun _ _ i _ => d.l - (intOf i).toNat)
  case atStart => exact ⟨0, by omega, rfl, rfl, rfl, Below.refl _ _⟩
  case round =>
    obtain ⟨k, hk, rfl, rfl, rfl, hb⟩ := hrel
    by_cases hlt : k < d.l
    · obtain ⟨b, o, rfl, _, _, hr⟩ := hrow (by omega)
      obtain ⟨x0, x1, x2, x3, x4⟩ := (hr k hlt).up hb
      obtain ⟨j, hj⟩ : ∃ j : Nat, d.P k = j := ⟨(d.P k).toNat, by have := HK.out.pp k hlt; omega⟩
      have hjm : j < d.m := by have := HK.out.pp k hlt; omega
      have hjn : (d.P k).toNat = j := by omega
      have HC := Lib.hid (stSquare_any (d.X k) (d.Y k) (d.U j) (d.V j) (HK.out.sx k (by omega)) (HK.out.su j hjm))
      have hst := farM_step HK.out hlt
      rw [show sqM d k = sq (d.X k) (d.Y k) (d.U j) (d.V j) by unfold sqM; rw [hjn]] at hst
      have HS := Lib.hid hst
      rw [show mvM d k 0 = d.X k from rfl] at x0
      rw [show mvM d k 1 = d.Y k from rfl] at x1
      rw [show mvM d k 2 = d.U j by show d.U (d.P k).toNat = _; rw [hjn]] at x2
      rw [show mvM d k 3 = d.V j by show d.V (d.P k).toNat = _; rw [hjn]] at x3
      rw [show mvM d k 4 = d.c from rfl] at x4
      clear hr hrow hj hjn hst
      by_cases hlt2 : mostM d k < sq (d.X k) (d.Y k) (d.U j) (d.V j)
      · have hdec : decide (mostM d k < sq (d.X k) (d.Y k) (d.U j) (d.V j)) = true := by simpa using hlt2
        go_wp2_with (go_at_call 208; refine (HC.out _).mono ?_; rintro e w3 ⟨rfl, hb3⟩)
        go_roundw
        case rel => exact ⟨k + 1, by omega, by go_num, by rw [(HS.out.1 hlt2).1], by rw [(HS.out.1 hlt2).2], by (repeat (first | with_reducible exact Below.refl _ _ | with_reducible assumption | with_reducible refine up_alloc ?_ _ | with_reducible refine up_drew ?_ | with_reducible refine up_drewN ?_ _ | (with_reducible refine up_set ?_ ?hset _; case hset => first | (simp; done) | (simp; omega) | omega) | with_reducible refine up_trans ?_ (by with_reducible assumption)))⟩
        case measure => simp [intOf]; omega
      · have hdec : decide (mostM d k < sq (d.X k) (d.Y k) (d.U j) (d.V j)) = false := by simpa using hlt2
        go_wp2_with (go_at_call 208; refine (HC.out _).mono ?_; rintro e w3 ⟨rfl, hb3⟩)
        go_roundw
        case rel => exact ⟨k + 1, by omega, by go_num, by rw [(HS.out.2 hlt2).1], by rw [(HS.out.2 hlt2).2], by (repeat (first | with_reducible exact Below.refl _ _ | with_reducible assumption | with_reducible refine up_alloc ?_ _ | with_reducible refine up_drew ?_ | with_reducible refine up_drewN ?_ _ | (with_reducible refine up_set ?_ ?hset _; case hset => first | (simp; done) | (simp; omega) | omega) | with_reducible refine up_trans ?_ (by with_reducible assumption)))⟩
        case measure => simp [intOf]; omega
    · have e : k = d.l := by omega
      subst e
      go_wp2_with fail
      go_ret
      exact ⟨rfl, hbW1.trans (hb.mono hbW1.size)⟩
end Go.Proofs.Ytkmnkodgmngaeaa
