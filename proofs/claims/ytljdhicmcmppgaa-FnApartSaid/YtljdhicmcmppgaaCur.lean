/-
  The reference's cursor of draws: what its methods leave standing.
-/
import Derived.Test.YtljdhicmcmppgaaRows
import Derived.Test.YtljdhicmcmppgaaBase
import Derived.Test.YtljdhicmcmppgaaSpot
import Derived.Test.YtljdhicmcmppgaaSlice
import Derived.Test.YtljdhicmcmppgaaLawS
import Derived.Test.YtljdhicmcmppgaaMark
import Derived.Test.YtljdhicmcmppgaaInts
import Derived.Test.YtljdhicmcmppgaaIntsL
import Derived.Test.YtljdhicmcmppgaaTurned
import Derived.Test.YtljdhicmcmppgaaTrans
import Derived.BigQuiet
namespace Go.Proofs.Ytljdhicmcmppgaa
open Go.RowKit Go.ChangeShapes Go.WideShapes Go.Sort

/-- A cursor's box at p: bytes that lie below p, a place from 0 to K, a seed. -/
structure CurAt (w : World) (p K : Nat) : Prop where
  ex : ∃ (A : Option Addr) (n c : Nat) (a : Nat) (s : Int), w.cell? ⟨p, 0, none⟩ = some (.slice A n c) ∧ w.cell? ⟨p, 1, none⟩ = some (.int .i64 a) ∧ w.cell? ⟨p, 2, none⟩ = some (.int .u64 s) ∧ a ≤ K ∧ n ≤ 9223372036854775807 ∧ n ≤ c ∧
    (0 < n → ∃ (b o : Nat) (Z : Nat → Int), A = some ⟨b, o, none⟩ ∧ b < p ∧ ∀ i, i < n → w.cell? ⟨b, o + i, none⟩ = some (.int .u8 (Z i)) ∧ 0 ≤ Z i ∧ Z i < 256)
  free : Free w p
  lt : p < w.heap.size
theorem CurAt.more {w : World} {p K K' : Nat} (h : CurAt w p K) (hk : K ≤ K') : CurAt w p K' := by
  obtain ⟨⟨A, n, c, a, s, h0, h1, h2, h3, h4⟩, hf, hl⟩ := h
  exact ⟨⟨A, n, c, a, s, h0, h1, h2, by omega, h4⟩, hf, hl⟩
theorem CurAt.up {w w' : World} {p K : Nat} (h : CurAt w p K) (hb : Below w.heap.size w w') : CurAt w' p K := by
  obtain ⟨⟨A, n, c, a, s, h0, h1, h2, h3, h4, h5, h6⟩, hf, hl⟩ := h
  refine ⟨⟨A, n, c, a, s, up_keep hb h0, up_keep hb h1, up_keep hb h2, h3, h4, h5, fun hn => ?_⟩, hf.up hl hb, by have := hb.size; omega⟩
  obtain ⟨b, o, Z, e, hbp, hz⟩ := h6 hn
  exact ⟨b, o, Z, e, hbp, fun i hi => ⟨up_keep hb (hz i hi).1, (hz i hi).2⟩⟩
/-- Returned: a number below N; only the cursor has turned. -/
def AnsCur (w : World) (p K N : Nat) (e : Ending) (w' : World) : Prop := ∃ x : Nat, e = .returned (.int .i64 x) ∧ x < N ∧ CurAt w' p K ∧ Turned p (p + 1) w w'
theorem and255 (s : Int) : ∃ x : Nat, bits .and .u64 s 255 = (x : Int) ∧ x < 256 := by
  refine ⟨(BitVec.ofInt 64 s &&& BitVec.ofInt 64 255).toNat, ?_, ?_⟩
  · show IntKind.u64.wrap ((BitVec.ofInt 64 s &&& BitVec.ofInt 64 255).toNat : Int) = _
    have := (BitVec.ofInt 64 s &&& BitVec.ofInt 64 255).isLt
    exact IntWalk.u64_in _ (by omega)
  · rw [BitVec.toNat_and]
    exact Nat.lt_of_le_of_lt Nat.and_le_right (by decide)
theorem CurAt.step {w : World} {p K : Nat} (hc : CurAt w p K) (a : Nat) (ha : a ≤ K) (s' : Int) {s : Int} (h1 : w.cell? ⟨p, 1, none⟩ = some (.int .i64 a)) (h2 : w.cell? ⟨p, 2, none⟩ = some (.int .u64 s)) :
    CurAt ((w.setCell ⟨p, 1, none⟩ (.int .i64 ((a : Int) + 1))).setCell ⟨p, 2, none⟩ (.int .u64 s')) p (K + 1) := by
  obtain ⟨⟨A, n, c, a0, s0, h0, _, _, _, h4, h5, h6⟩, hf, hl⟩ := hc
  refine ⟨⟨A, n, c, a + 1, s', ?_, ?_, ?_, by omega, h4, h5, fun hn => ?_⟩, (hf.set _ _).set _ _, by rw [size_set, size_set]; exact hl⟩
  · rw [cell_set_ne _ _ _ _ _ _ (by omega), cell_set_ne _ _ _ _ _ _ (by omega)]; exact h0
  · rw [cell_set_ne _ _ _ _ _ _ (by omega)]; exact cell_set_same _ _ _ _ _ h1
  · refine cell_set_same _ _ _ (.int .u64 s) _ ?_
    rw [cell_set_ne _ _ _ _ _ _ (by omega)]; exact h2
  · obtain ⟨b, o, Z, e, hbp, hz⟩ := h6 hn
    refine ⟨b, o, Z, e, hbp, fun i hi => ⟨?_, (hz i hi).2⟩⟩
    rw [cell_set_ne _ _ _ _ _ _ (by omega), cell_set_ne _ _ _ _ _ _ (by omega)]; exact (hz i hi).1
theorem Turned.two (w : World) (p : Nat) (u v : Value) : Turned p (p + 1) w ((w.setCell ⟨p, 1, none⟩ u).setCell ⟨p, 2, none⟩ v) :=
  (Turned.set (Nat.le_refl _) (by omega) u).trans (Turned.set (Nat.le_refl _) (by omega) v)
/-- The cells of a cursor's box, at a world that holds them. -/
structure CurC (w : World) (p : Nat) (A : Option Addr) (n c : Nat) (a : Int) (s : Int) : Prop where
  c0 : w.cell? ⟨p, 0, none⟩ = some (.slice A n c)
  c1 : w.cell? ⟨p, 1, none⟩ = some (.int .i64 a)
  c2 : w.cell? ⟨p, 2, none⟩ = some (.int .u64 s)
  f1 : w.frozen? ⟨p, 1, none⟩ = false
  f2 : w.frozen? ⟨p, 2, none⟩ = false
set_option maxRecDepth 100000 in
set_option maxHeartbeats 4000000 in
theorem cur_next (p K : Nat) (w : World) (h : CurAt w p K) (hK : K ≤ 1099511627776) :
    Calls Try.prog 72 #[.pointer (some ⟨p, 0, none⟩)] w (AnsCur w p (K + 1) 256) := by
  have HC := Lib.hid h
  obtain ⟨⟨A, n, c, a, s, h0, h1, h2, h3, h4, h5, h6⟩, hf, hl⟩ := h
  have f1 := hf 1
  have f2 := hf 2
  have HZ := Lib.hid h6
  clear h6
  by_cases hlt : a < n
  · obtain ⟨b, o, Z, rfl, hbp, hz⟩ := HZ.out (by omega)
    have c0 := (hz a hlt).1
    have c1 := (hz a hlt).2
    have HZ2 := Lib.hid hz
    clear hz
    have j1 : (a : Int) < (n : Int) := by omega
    go_enter Try.func72, Try.ntmps72
    go_wp2_with fail
    go_quiet (fail)
    have hb1 : Below w.heap.size w (w.drewN nq) := up_drewN (Below.refl _ _) nq
    replace h0 := up_keep hb1 h0
    replace h1 := up_keep hb1 h1
    replace h2 := up_keep hb1 h2
    replace c0 := up_keep hb1 c0
    have hf1 := hf.up hl hb1
    have HC1 := Lib.hid (HC.out.up hb1)
    have hl1 : p < (w.drewN nq).heap.size := by have := hb1.size; omega
    clear HC hf
    generalize w.drewN nq = w1 at *
    go_wp2_with fail
    go_quiet (fail)
    have hb2 : Below w1.heap.size w1 (w1.drewN nq) := up_drewN (Below.refl _ _) nq
    replace h0 := up_keep hb2 h0
    replace h1 := up_keep hb2 h1
    replace h2 := up_keep hb2 h2
    have hf2 := hf1.up hl1 hb2
    have hl2 : p < (w1.drewN nq).heap.size := by have := hb2.size; omega
    clear hf1 f1 f2
    generalize w1.drewN nq = w2 at *
    have f1 := hf2 1
    have f2 := hf2 2
    go_wp2_with fail
    have hs3 := CurAt.step (HC1.out.up hb2) a h3 (IntKind.u64.wrap (IntKind.u64.wrap (IntKind.u64.wrap (s * 6364136223846793005) + Z a) + 1442695040888963407)) h1 h2
    have ht3 := Turned.two w2 p (.int .i64 ((a : Int) + 1)) (.int .u64 (IntKind.u64.wrap (IntKind.u64.wrap (IntKind.u64.wrap (s * 6364136223846793005) + Z a) + 1442695040888963407)))
    have g0 := (cell_set_ne (w2.setCell ⟨p, 1, none⟩ (.int .i64 ((a : Int) + 1))) p 2 (.int .u64 (IntKind.u64.wrap (IntKind.u64.wrap (IntKind.u64.wrap (s * 6364136223846793005) + Z a) + 1442695040888963407))) p 0 (by omega)).trans ((cell_set_ne w2 p 1 (.int .i64 ((a : Int) + 1)) p 0 (by omega)).trans h0)
    have g1 := (cell_set_ne (w2.setCell ⟨p, 1, none⟩ (.int .i64 ((a : Int) + 1))) p 2 (.int .u64 (IntKind.u64.wrap (IntKind.u64.wrap (IntKind.u64.wrap (s * 6364136223846793005) + Z a) + 1442695040888963407))) p 1 (by omega)).trans (cell_set_same w2 p 1 _ (.int .i64 ((a : Int) + 1)) h1)
    have HF2 := Lib.hid hf2
    clear h0 h1 h2 f1 f2 hf2 hl2
    generalize World.setCell (World.setCell w2 _ _) _ _ = w3 at *
    have j2 : (a : Int) + 1 ≤ (n : Int) := by omega
    go_quiet (fail)
    have hb4 : Below w3.heap.size w3 (w3.drewN nq) := up_drewN (Below.refl _ _) nq
    have hs4 := hs3.up hb4
    generalize w3.drewN nq = w4 at *
    go_wp2_with fail
    go_ret
    refine ⟨(Z a).toNat, by rw [show (((Z a).toNat : Nat) : Int) = Z a by omega]; rfl, by omega, hs4, ?_⟩
    exact (((Turned.of_below hb1).trans (Turned.of_below hb2)).trans ht3).trans (Turned.of_below hb4)
  · have j1 : ¬ (a : Int) < (n : Int) := by omega
    go_enter Try.func72, Try.ntmps72
    go_wp2_with fail
    go_quiet (fail)
    have hb1 : Below w.heap.size w (w.drewN nq) := up_drewN (Below.refl _ _) nq
    replace h0 := up_keep hb1 h0
    replace h1 := up_keep hb1 h1
    replace h2 := up_keep hb1 h2
    have hf1 := hf.up hl hb1
    have HC1 := Lib.hid (HC.out.up hb1)
    have hl1 : p < (w.drewN nq).heap.size := by have := hb1.size; omega
    clear HC hf f1 f2
    generalize w.drewN nq = w2 at *
    have f1 := hf1 1
    have f2 := hf1 2
    go_wp2_with fail
    generalize IntKind.u64.wrap (IntKind.u64.wrap (IntKind.u64.wrap (s * 6364136223846793005)) + 1442695040888963407) = s2 at *
    have hs3 := CurAt.step HC1.out a h3 s2 h1 h2
    have ht3 := Turned.two w2 p (.int .i64 ((a : Int) + 1)) (.int .u64 s2)
    have g0 := (cell_set_ne (w2.setCell ⟨p, 1, none⟩ (.int .i64 ((a : Int) + 1))) p 2 (.int .u64 s2) p 0 (by omega)).trans ((cell_set_ne w2 p 1 (.int .i64 ((a : Int) + 1)) p 0 (by omega)).trans h0)
    have g1 := (cell_set_ne (w2.setCell ⟨p, 1, none⟩ (.int .i64 ((a : Int) + 1))) p 2 (.int .u64 s2) p 1 (by omega)).trans (cell_set_same w2 p 1 _ (.int .i64 ((a : Int) + 1)) h1)
    have g2 := cell_set_same (w2.setCell ⟨p, 1, none⟩ (.int .i64 ((a : Int) + 1))) p 2 (.int .u64 s) (.int .u64 s2) ((cell_set_ne w2 p 1 (.int .i64 ((a : Int) + 1)) p 2 (by omega)).trans h2)
    clear h0 h1 h2 f1 f2 hf1 hl1
    generalize World.setCell (World.setCell w2 _ _) _ _ = w3 at *
    have j2 : ¬ (a : Int) + 1 ≤ (n : Int) := by omega
    go_quiet (fail)
    have hb4 : Below w3.heap.size w3 (w3.drewN nq) := up_drewN (Below.refl _ _) nq
    have hs4 := hs3.up hb4
    replace g2 := up_keep hb4 g2
    clear g0 g1
    generalize w3.drewN nq = w4 at *
    obtain ⟨x, ex, hx⟩ := and255 (s2 / 1099511627776)
    go_wp2_with fail
    trace_state
    go_ret
    refine ⟨x, by rw [← ex]; rfl, hx, hs4, ?_⟩
    exact ((Turned.of_below hb1).trans ht3).trans (Turned.of_below hb4)
end Go.Proofs.Ytljdhicmcmppgaa
