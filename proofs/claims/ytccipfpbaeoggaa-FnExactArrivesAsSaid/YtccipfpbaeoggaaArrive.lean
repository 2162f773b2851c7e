/-
  ArrivesAs on both sides.
-/
import Derived.Test.YtccipfpbaeoggaaRows
import Derived.Test.YtccipfpbaeoggaaBase
import Derived.Test.YtccipfpbaeoggaaSpot
import Derived.Test.YtccipfpbaeoggaaSlice
import Derived.Test.YtccipfpbaeoggaaChart
import Derived.Test.YtccipfpbaeoggaaLawS
import Derived.Test.YtccipfpbaeoggaaMark
import Derived.Test.YtccipfpbaeoggaaOpen
import Derived.Test.YtccipfpbaeoggaaTrod
import Derived.Test.YtccipfpbaeoggaaInts
import Derived.Test.YtccipfpbaeoggaaIntsL
import Derived.Test.YtccipfpbaeoggaaTurned
import Derived.Test.YtccipfpbaeoggaaTrans
import Derived.Test.YtccipfpbaeoggaaAppend
import Derived.Test.YtccipfpbaeoggaaAppendE
import Derived.Test.YtccipfpbaeoggaaForm
import Derived.Test.YtccipfpbaeoggaaMatch
import Derived.Test.YtccipfpbaeoggaaChanged
import Derived.Test.YtccipfpbaeoggaaIsTrans

namespace Go.Proofs.Ytccipfpbaeoggaa
open Go.RowKit Go.ChangeShapes Go.WideShapes Go.Sort


def arX (d : TrD) (i : Nat) : Int := d.U (d.P i).toNat
def arY (d : TrD) (i : Nat) : Int := d.V (d.P i).toNat
theorem trB_places {d : TrD} (h : trB d = true) : d.l = d.n ∧ d.n = d.m ∧ d.n ≤ 12 ∧ ∀ i, i < d.l → 0 ≤ d.P i ∧ d.P i < d.m := by
  obtain ⟨h1, _, h3, _, h5⟩ := trB_iff h
  obtain ⟨g1, g2⟩ := mtB_iff h5
  have := (chartB_iff.1 h1).1
  exact ⟨g1, h3, by omega, fun i hi => by have := g2 i hi; omega⟩
set_option maxRecDepth 100000 in
set_option maxHeartbeats 2000000 in
theorem arrivesAs_g (v : Value) (d : TrD) (w : World) (h : Trn w v d) (ht : trB d = true) : Calls Try.prog 101 #[v] w (AnsS w d.l (arX d) (arY d)) := by
  obtain ⟨l1, l2, l3, l4⟩ := trB_places ht
  have HQ := Lib.hid l4
  have l5 : d.l ≤ 12 := by omega
  clear ht l4 l1 l2 l3
  obtain ⟨f, t, p, rfl, hf, ht, hp⟩ := h
  have HF := Lib.hid hf
  have HT := Lib.hid ht
  have HP := Lib.hid hp
  obtain ⟨A1, c1, rfl, b1⟩ := hf.shape
  obtain ⟨A2, c2, rfl, b2⟩ := ht.shape
  obtain ⟨A3, c3, rfl, b3⟩ := hp.shape
  have HPr := Lib.hid (show 0 < d.l → ∃ b o, A3 = some ⟨b, o, none⟩ ∧ Row1 w b o d.l d.P by
    obtain ⟨A, c, e, _, hr⟩ := hp
    cases e; exact hr)
  have HTr := Lib.hid (show 0 < d.m → ∃ b o, A2 = some ⟨b, o, none⟩ ∧ Row2 w b o d.m d.U d.V by
    obtain ⟨A, c, e, _, hr⟩ := ht
    cases e; exact hr)
  clear hf ht hp
  go_enter Try.func101, Try.ntmps101
  go_wp2_with fail
  generalize hW : World.alloc w _ = W at *
  have hbW : Below w.heap.size w W := by subst hW; (repeat (first | with_reducible exact Below.refl _ _ | with_reducible assumption | with_reducible refine up_alloc ?_ _ | with_reducible refine up_drew ?_ | with_reducible refine up_drewN ?_ _ | (with_reducible refine up_set ?_ ?hset _; case hset => first | (simp; done) | (simp; omega) | omega) | with_reducible refine up_trans ?_ (by with_reducible assumption)))
  have k0 : W.cell? ⟨w.heap.size, 0, none⟩ = some (.slice A1 d.n c1) := by subst hW; simp [go_sem]
  have k1 : W.cell? ⟨w.heap.size, 1, none⟩ = some (.slice A2 d.m c2) := by subst hW; simp [go_sem]
  have k2 : W.cell? ⟨w.heap.size, 2, none⟩ = some (.int .i64 d.c) := by subst hW; simp [go_sem]
  have k3 : W.cell? ⟨w.heap.size, 3, none⟩ = some (.slice A3 d.l c3) := by subst hW; simp [go_sem]
  have HSZ := Lib.hid (show W.heap.size = w.heap.size + 1 by subst hW; simp)
  clear hW
  go_loopw [3, 10] (fun q i wr => ∃ k : Nat, k ≤ d.l ∧ i = .int .i64 k ∧ OwnR W.heap.size wr q k (arX d) (arY d) ∧ Below W.heap.size W wr) (fun _ i _ => d.l - (intOf i).toNat)
  case atStart => exact ⟨0, by omega, rfl, by rw [← HSZ.out]; exact OwnR.empty (Nat.le_refl _) _ _, below_alloc _ _⟩
  case round =>
    obtain ⟨k, hk, rfl, how, hb⟩ := hrel
    by_cases hlt : k < d.l
    · obtain ⟨j, hj⟩ : ∃ j : Nat, d.P k = j := ⟨(d.P k).toNat, by have := HQ.out k hlt; omega⟩
      have hjm : j < d.m := by have := HQ.out k hlt; omega
      obtain ⟨b5, o5, rfl, hr5⟩ := HPr.out (by omega)
      obtain ⟨b6, o6, rfl, hr6⟩ := HTr.out (by omega)
      have c0 := up_keep hb (up_keep hbW (hr5 k hlt))
      have c1' := up_keep hb (up_keep hbW (hr6 j hjm).1)
      have c2' := up_keep hb (up_keep hbW (hr6 j hjm).2)
      rw [hj] at c0
      have HX := Lib.hid (show arX d k = d.U j by unfold arX; rw [hj, Int.toNat_natCast])
      have HY := Lib.hid (show arY d k = d.V j by unfold arY; rw [hj, Int.toNat_natCast])
      have q1 := up_keep hb k1
      have j1 : (j : Int) < (d.m : Int) := by omega
      clear hr5 hr6 hj
      go_wp2_with (at_builtin; refine wpList_app_spot2 rfl (.tmp 14) (.tmp 20) rfl W.heap.size _ k (arX d) (arY d) rfl rfl HX.out HY.out (by simp [go_sem]) (by simp [go_sem]) (OwnR.up how (by (repeat (first | with_reducible exact Below.refl _ _ | with_reducible assumption | with_reducible refine up_alloc ?_ _ | with_reducible refine up_drew ?_ | with_reducible refine up_drewN ?_ _ | (with_reducible refine up_set ?_ ?hset _; case hset => first | (simp; done) | (simp; omega) | omega) | with_reducible refine up_trans ?_ (by with_reducible assumption))))) (show Below W.heap.size W _ from (by (repeat (first | with_reducible exact Below.refl _ _ | with_reducible assumption | with_reducible refine up_alloc ?_ _ | with_reducible refine up_drew ?_ | with_reducible refine up_drewN ?_ _ | (with_reducible refine up_set ?_ ?hset _; case hset => first | (simp; done) | (simp; omega) | omega) | with_reducible refine up_trans ?_ (by with_reducible assumption))))).size (by omega) ?_; intro v2 w2 ho2 hb2 _ _; replace hb2 := (show Below W.heap.size W _ from (by (repeat (first | with_reducible exact Below.refl _ _ | with_reducible assumption | with_reducible refine up_alloc ?_ _ | with_reducible refine up_drew ?_ | with_reducible refine up_drewN ?_ _ | (with_reducible refine up_set ?_ ?hset _; case hset => first | (simp; done) | (simp; omega) | omega) | with_reducible refine up_trans ?_ (by with_reducible assumption))))).trans hb2)
      go_roundw
      case rel => exact ⟨k + 1, by omega, by go_num, ho2, hb2⟩
      case measure => simp [intOf]; omega
    · have e : k = d.l := by omega
      subst e
      go_wp2_with fail
      go_ret
      exact ⟨_, rfl, how.ownS.more hbW.size, hbW.trans (hb.mono hbW.size)⟩
theorem ar_le (d : TrD) (h : d.l ≤ 1048576) : sel (trB d) d.l ≤ 1048576 := Nat.le_trans (sel_le _ _) h
set_option maxRecDepth 100000 in
set_option maxHeartbeats 1000000 in
theorem iArrivesAs_g (v : Value) (d : TrD) (w : World) (h : Trn w v d) (hn : d.n ≤ 1048576) (hm : d.m ≤ 1048576) (hl : d.l ≤ 1048576) :
    Calls Try.prog 58 #[v] w (AnsSB w (sel (trB d) d.l) (arX d) (arY d) (trB d)) := by
  obtain ⟨f, t, p, rfl, hf, ht, hp⟩ := h
  have HF := Lib.hid hf
  have HT := Lib.hid ht
  have HP := Lib.hid hp
  obtain ⟨A1, c1, rfl, b1⟩ := hf.shape
  obtain ⟨A2, c2, rfl, b2⟩ := ht.shape
  obtain ⟨A3, c3, rfl, b3⟩ := hp.shape
  clear hf ht hp
  have HI := Lib.hid (fun W (hW : Below w.heap.size w W) => isTransition_g _ d W ⟨_, _, _, rfl, HF.out.up hW, HT.out.up hW, HP.out.up hW⟩ hn hm hl)
  have HA := Lib.hid (fun W (hW : Below w.heap.size w W) h => arrivesAs_g _ d W ⟨_, _, _, rfl, HF.out.up hW, HT.out.up hW, HP.out.up hW⟩ h)
  cases e1 : trB d with
  | false =>
    rw [e1] at HI
    go_enter Try.func58, Try.ntmps58
    go_wp2_with fail
    refine (HI.out _ (by (repeat (first | with_reducible exact Below.refl _ _ | with_reducible assumption | with_reducible refine up_alloc ?_ _ | with_reducible refine up_drew ?_ | with_reducible refine up_drewN ?_ _ | (with_reducible refine up_set ?_ ?hset _; case hset => first | (simp; done) | (simp; omega) | omega) | with_reducible refine up_trans ?_ (by with_reducible assumption))))).mono ?_
    rintro e w1 ⟨rfl, hb1⟩
    go_wp2_with fail
    go_ret2
    exact AnsSB.nil (by (repeat (first | with_reducible exact Below.refl _ _ | with_reducible assumption | with_reducible refine up_alloc ?_ _ | with_reducible refine up_drew ?_ | with_reducible refine up_drewN ?_ _ | (with_reducible refine up_set ?_ ?hset _; case hset => first | (simp; done) | (simp; omega) | omega) | with_reducible refine up_trans ?_ (by with_reducible assumption))))
  | true =>
    rw [e1] at HI
    have HA := Lib.hid (fun W hW => HA.out W hW e1)
    go_enter Try.func58, Try.ntmps58
    go_wp2_with fail
    generalize hW : World.alloc _ _ = W at *
    have hbW : Below w.heap.size w W := by subst hW; (repeat (first | with_reducible exact Below.refl _ _ | with_reducible assumption | with_reducible refine up_alloc ?_ _ | with_reducible refine up_drew ?_ | with_reducible refine up_drewN ?_ _ | (with_reducible refine up_set ?_ ?hset _; case hset => first | (simp; done) | (simp; omega) | omega) | with_reducible refine up_trans ?_ (by with_reducible assumption)))
    have k0 : W.cell? ⟨w.heap.size, 0, none⟩ = some (.slice A1 d.n c1) := by subst hW; simp [go_sem]
    have k1 : W.cell? ⟨w.heap.size, 1, none⟩ = some (.slice A2 d.m c2) := by subst hW; simp [go_sem]
    have k2 : W.cell? ⟨w.heap.size, 2, none⟩ = some (.int .i64 d.c) := by subst hW; simp [go_sem]
    have k3 : W.cell? ⟨w.heap.size, 3, none⟩ = some (.slice A3 d.l c3) := by subst hW; simp [go_sem]
    clear hW
    refine (HI.out _ hbW).mono ?_
    rintro e w1 ⟨rfl, hb1⟩
    have q0 := up_keep hb1 k0; have q1 := up_keep hb1 k1; have q2 := up_keep hb1 k2; have q3 := up_keep hb1 k3
    have hw1 := up_trans hbW hb1
    clear e1
    go_wp2_with fail
    refine (HA.out _ hw1).mono ?_
    rintro e w2 ⟨u, rfl, hu, hb2⟩
    go_wp2_with fail
    go_ret2
    exact ⟨_, rfl, hu.more hw1.size, up_trans hw1 hb2⟩
set_option maxRecDepth 100000 in
set_option maxHeartbeats 2000000 in
theorem sArrivesAs_g (v : Value) (d : TrD) (w : World) (h : Trn w v d) (hn : d.n ≤ 1048576) (hm : d.m ≤ 1048576) (hl : d.l ≤ 1048576) :
    Calls Try.prog 57 #[v] w (AnsSB w (sel (trB d) d.l) (arX d) (arY d) (trB d)) := by
  obtain ⟨f, t, p, rfl, hf, ht, hp⟩ := h
  have HF := Lib.hid hf
  have HT := Lib.hid ht
  have HP := Lib.hid hp
  obtain ⟨A1, c1, rfl, b1⟩ := hf.shape
  obtain ⟨A2, c2, rfl, b2⟩ := ht.shape
  obtain ⟨A3, c3, rfl, b3⟩ := hp.shape
  have HPr := Lib.hid (show 0 < d.l → ∃ b o, A3 = some ⟨b, o, none⟩ ∧ Row1 w b o d.l d.P by
    obtain ⟨A, c, e, _, hr⟩ := hp
    cases e; exact hr)
  have HTr := Lib.hid (show 0 < d.m → ∃ b o, A2 = some ⟨b, o, none⟩ ∧ Row2 w b o d.m d.U d.V by
    obtain ⟨A, c, e, _, hr⟩ := ht
    cases e; exact hr)
  clear hf ht hp
  have HI := Lib.hid (fun W (hW : Below w.heap.size w W) => asGood_g _ d W ⟨_, _, _, rfl, HF.out.up hW, HT.out.up hW, HP.out.up hW⟩ hn hm hl)
  cases e1 : trB d with
  | false =>
    rw [e1] at HI
    go_enter Try.func57, Try.ntmps57
    go_wp2_with fail
    refine (HI.out _ (by (repeat (first | with_reducible exact Below.refl _ _ | with_reducible assumption | with_reducible refine up_alloc ?_ _ | with_reducible refine up_drew ?_ | with_reducible refine up_drewN ?_ _ | (with_reducible refine up_set ?_ ?hset _; case hset => first | (simp; done) | (simp; omega) | omega) | with_reducible refine up_trans ?_ (by with_reducible assumption))))).mono ?_
    rintro e w1 ⟨rfl, hb1⟩
    go_wp2_with fail
    go_ret2
    exact AnsSB.nil (by (repeat (first | with_reducible exact Below.refl _ _ | with_reducible assumption | with_reducible refine up_alloc ?_ _ | with_reducible refine up_drew ?_ | with_reducible refine up_drewN ?_ _ | (with_reducible refine up_set ?_ ?hset _; case hset => first | (simp; done) | (simp; omega) | omega) | with_reducible refine up_trans ?_ (by with_reducible assumption))))
  | true =>
    rw [e1] at HI
    obtain ⟨l1, l2, l3, l4⟩ := trB_places e1
    have HQ := Lib.hid l4
    have l5 : d.l ≤ 12 := by omega
    clear l4 e1 l1 l2 l3
    go_enter Try.func57, Try.ntmps57
    go_wp2_with fail
    generalize hW0 : World.alloc w _ = W0 at *
    skip
    have hbW0 : Below w.heap.size w W0 := by subst hW0; (repeat (first | with_reducible exact Below.refl _ _ | with_reducible assumption | with_reducible refine up_alloc ?_ _ | with_reducible refine up_drew ?_ | with_reducible refine up_drewN ?_ _ | (with_reducible refine up_set ?_ ?hset _; case hset => first | (simp; done) | (simp; omega) | omega) | with_reducible refine up_trans ?_ (by with_reducible assumption)))
    have k0 : W0.cell? ⟨w.heap.size, 0, none⟩ = some (.slice A1 d.n c1) := by subst hW0; simp [go_sem]
    have k1 : W0.cell? ⟨w.heap.size, 1, none⟩ = some (.slice A2 d.m c2) := by subst hW0; simp [go_sem]
    have k2 : W0.cell? ⟨w.heap.size, 2, none⟩ = some (.int .i64 d.c) := by subst hW0; simp [go_sem]
    have k3 : W0.cell? ⟨w.heap.size, 3, none⟩ = some (.slice A3 d.l c3) := by subst hW0; simp [go_sem]
    clear hW0
    refine (HI.out _ hbW0).mono ?_
    clear HI
    rintro e W ⟨rfl, hb1⟩
    replace k0 := up_keep hb1 k0
    replace k1 := up_keep hb1 k1
    replace k2 := up_keep hb1 k2
    replace k3 := up_keep hb1 k3
    have hbW := up_trans hbW0 hb1
    go_wp2_with fail
    go_loopw [4, 13] (fun q i wr => ∃ k : Nat, k ≤ d.l ∧ i = .int .i64 k ∧ OwnR W.heap.size wr q k (arX d) (arY d) ∧ Below W.heap.size W wr) (fun _ i _ => d.l - (intOf i).toNat)
    case atStart => exact ⟨0, by omega, rfl, OwnR.nil _ _ _ _, Below.refl _ _⟩
    case round =>
      obtain ⟨k, hk, rfl, how, hb⟩ := hrel
      by_cases hlt : k < d.l
      · obtain ⟨j, hj⟩ : ∃ j : Nat, d.P k = j := ⟨(d.P k).toNat, by have := HQ.out k hlt; omega⟩
        have hjm : j < d.m := by have := HQ.out k hlt; omega
        obtain ⟨b5, o5, rfl, hr5⟩ := HPr.out (by omega)
        obtain ⟨b6, o6, rfl, hr6⟩ := HTr.out (by omega)
        have c0 := up_keep hb (up_keep hbW (hr5 k hlt))
        have c1' := up_keep hb (up_keep hbW (hr6 j hjm).1)
        have c2' := up_keep hb (up_keep hbW (hr6 j hjm).2)
        rw [hj] at c0
        have HX := Lib.hid (show arX d k = d.U j by unfold arX; rw [hj, Int.toNat_natCast])
        have HY := Lib.hid (show arY d k = d.V j by unfold arY; rw [hj, Int.toNat_natCast])
        have q1 := up_keep hb k1
        have j1 : (j : Int) < (d.m : Int) := by omega
        clear hr5 hr6 hj
        go_wp2_with (at_builtin; refine wpList_app_spot2 rfl (.tmp 17) (.tmp 23) rfl W.heap.size _ k (arX d) (arY d) rfl rfl HX.out HY.out (by simp [go_sem]) (by simp [go_sem]) (OwnR.up how (by (repeat (first | with_reducible exact Below.refl _ _ | with_reducible assumption | with_reducible refine up_alloc ?_ _ | with_reducible refine up_drew ?_ | with_reducible refine up_drewN ?_ _ | (with_reducible refine up_set ?_ ?hset _; case hset => first | (simp; done) | (simp; omega) | omega) | with_reducible refine up_trans ?_ (by with_reducible assumption))))) (show Below W.heap.size W _ from (by (repeat (first | with_reducible exact Below.refl _ _ | with_reducible assumption | with_reducible refine up_alloc ?_ _ | with_reducible refine up_drew ?_ | with_reducible refine up_drewN ?_ _ | (with_reducible refine up_set ?_ ?hset _; case hset => first | (simp; done) | (simp; omega) | omega) | with_reducible refine up_trans ?_ (by with_reducible assumption))))).size (by omega) ?_; intro v2 w2 ho2 hb2 _ _; replace hb2 := (show Below W.heap.size W _ from (by (repeat (first | with_reducible exact Below.refl _ _ | with_reducible assumption | with_reducible refine up_alloc ?_ _ | with_reducible refine up_drew ?_ | with_reducible refine up_drewN ?_ _ | (with_reducible refine up_set ?_ ?hset _; case hset => first | (simp; done) | (simp; omega) | omega) | with_reducible refine up_trans ?_ (by with_reducible assumption))))).trans hb2)
        go_roundw
        case rel => exact ⟨k + 1, by omega, by go_num, ho2, hb2⟩
        case measure => simp [intOf]; omega
      · have e : k = d.l := by omega
        subst e
        go_wp2_with fail
        go_ret2
        exact ⟨_, rfl, how.ownS.more hbW.size, hbW.trans (hb.mono hbW.size)⟩
end Go.Proofs.Ytccipfpbaeoggaa
