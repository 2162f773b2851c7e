/- Words and contracts, part 2. -/
import Derived.Test.YtljdhicmcmppgaaRows
import Derived.BigQuiet
import Derived.Maps.AppendAt
import Derived.Lib.SmallJoins
import Derived.Deep.Slices
import Derived.Deep.CutRange
import Derived.Deep.DeepCutAuto
import Derived.Test.YtljdhicmcmppgaaZ1
namespace Go.Proofs.Ytljdhicmcmppgaa
open Go.RowKit Go.ChangeShapes Go.WideShapes Go.Sort

/-- What a transition reads as. -/
structure TrD where
  n : Nat
  m : Nat
  l : Nat
  X : Nat → Int
  Y : Nat → Int
  U : Nat → Int
  V : Nat → Int
  P : Nat → Int
  c : Int
def Trn (w : World) (v : Value) (d : TrD) : Prop := ∃ f t p, v = .agg #[f, t, .int .i64 d.c, p] ∧ Spots w f d.n d.X d.Y ∧ Spots w t d.m d.U d.V ∧ Ints w p d.l d.P
theorem Trn.up {w w' : World} {v : Value} {d : TrD} (h : Trn w v d) (hb : Below w.heap.size w w') : Trn w' v d := by
  obtain ⟨f, t, p, e, h1, h2, h3⟩ := h
  exact ⟨f, t, p, e, h1.up hb, h2.up hb, h3.up hb⟩
/-- .. in memory of its own, each slice in a block of its own. -/
def OwnT (base : Nat) (w : World) (v : Value) (d : TrD) : Prop := ∃ f t p, v = .agg #[f, t, .int .i64 d.c, p] ∧ OwnS base w f d.n d.X d.Y ∧ OwnS base w t d.m d.U d.V ∧ OwnI base w p d.l d.P ∧
  (0 < d.n → 0 < d.m → f.ownBlock ≠ t.ownBlock) ∧ (0 < d.n → 0 < d.l → f.ownBlock ≠ p.ownBlock) ∧ (0 < d.m → 0 < d.l → t.ownBlock ≠ p.ownBlock)
section
variable {base lo hi : Nat} {w w' : World} {v : Value} {d : TrD}
theorem OwnT.trn (h : OwnT base w v d) : Trn w v d := by
  obtain ⟨f, t, p, e, h1, h2, h3, _⟩ := h
  exact ⟨f, t, p, e, h1.spots, h2.spots, h3.ints⟩
theorem OwnT.up (h : OwnT base w v d) (hb : Below w.heap.size w w') : OwnT base w' v d := by
  obtain ⟨f, t, p, e, h1, h2, h3, h4⟩ := h
  exact ⟨f, t, p, e, h1.up hb, h2.up hb, h3.up hb, h4⟩
theorem OwnT.more (h : OwnT base w v d) {base' : Nat} (hb : base' ≤ base) : OwnT base' w v d := by
  obtain ⟨f, t, p, e, h1, h2, h3, h4⟩ := h
  exact ⟨f, t, p, e, h1.more hb, h2.more hb, h3.more hb, h4⟩
theorem OwnT.turn (h : OwnT base w v d) (ht : Turned lo hi w w') (hb : hi ≤ base) : OwnT base w' v d := by
  obtain ⟨f, t, p, e, h1, h2, h3, h4⟩ := h
  exact ⟨f, t, p, e, h1.turn ht hb, h2.turn ht hb, h3.turn ht hb, h4⟩
theorem Trn.turn {wb : World} {d0 : TrD} (h0 : Trn wb v d0) (hn : d0.n = d.n) (hm : d0.m = d.m) (hl : d0.l = d.l) (h : Trn w v d) (ht : Turned lo hi w w') (h1 : lo ≤ w.heap.size) (hb : wb.heap.size ≤ lo) : Trn w' v d := by
  obtain ⟨f, t, p, e, g1, g2, g3⟩ := h
  obtain ⟨f', t', p', e', k1, k2, k3⟩ := h0
  rw [e] at e'
  simp only [Value.agg.injEq, Array.mk.injEq, List.cons.injEq, and_true] at e'
  obtain ⟨rfl, rfl, _, rfl⟩ := e'
  rw [hn] at k1
  rw [hm] at k2
  rw [hl] at k3
  exact ⟨f, t, p, e, Spots.turn k1 g1 ht h1 hb, Spots.turn k2 g2 ht h1 hb, Ints.turn k3 g3 ht h1 hb⟩
end
theorem own_neS {base : Nat} {w1 w : World} {f t : Value} {n m : Nat} {X Y U V : Nat → Int} (hf : Spots w1 f n X Y) (ht : OwnS base w t m U V) (hb : w1.heap.size ≤ base) : 0 < n → 0 < m → f.ownBlock ≠ t.ownBlock := by
  intro hn hm
  obtain ⟨A, c, rfl, _, hr⟩ := hf
  obtain ⟨b, o, rfl, h1⟩ := hr hn
  obtain ⟨A', c', rfl, _, hr'⟩ := ht
  obtain ⟨b', o', rfl, h2, _⟩ := hr' hm
  have := h1.lt hn
  simp [Value.ownBlock]
  omega
theorem own_neI {base : Nat} {w1 w : World} {f t : Value} {n m : Nat} {X Y P : Nat → Int} (hf : Spots w1 f n X Y) (ht : OwnI base w t m P) (hb : w1.heap.size ≤ base) : 0 < n → 0 < m → f.ownBlock ≠ t.ownBlock := by
  intro hn hm
  obtain ⟨A, c, rfl, _, hr⟩ := hf
  obtain ⟨b, o, rfl, h1⟩ := hr hn
  obtain ⟨A', c', rfl, _, hr'⟩ := ht
  obtain ⟨b', o', rfl, h2, _⟩ := hr' hm
  have := h1.lt hn
  simp [Value.ownBlock]
  omega
theorem OwnS.shape {base : Nat} {w : World} {v : Value} {n : Nat} {X Y : Nat → Int} (h : OwnS base w v n X Y) : ∃ A c, v = .slice A n c ∧ n ≤ c := by
  obtain ⟨A, c, e, hc, _⟩ := h
  exact ⟨A, c, e, hc⟩
theorem OwnI.shape {base : Nat} {w : World} {v : Value} {n : Nat} {X : Nat → Int} (h : OwnI base w v n X) : ∃ A c, v = .slice A n c ∧ n ≤ c := by
  obtain ⟨A, c, e, hc, _⟩ := h
  exact ⟨A, c, e, hc⟩
theorem Spots.shape {w : World} {v : Value} {n : Nat} {X Y : Nat → Int} (h : Spots w v n X Y) : ∃ A c, v = .slice A n c ∧ n ≤ c := by
  obtain ⟨A, c, e, hc, _⟩ := h
  exact ⟨A, c, e, hc⟩
theorem Ints.shape {w : World} {v : Value} {n : Nat} {X : Nat → Int} (h : Ints w v n X) : ∃ A c, v = .slice A n c ∧ n ≤ c := by
  obtain ⟨A, c, e, hc, _⟩ := h
  exact ⟨A, c, e, hc⟩
/-- Returned: a transition in new memory (and a Bool); nothing that was there has turned. -/
def AnsT (w : World) (d : TrD) (e : Ending) (w' : World) : Prop := ∃ v, e = .returned v ∧ OwnT w.heap.size w' v d ∧ Below w.heap.size w w'
def AnsTB (w : World) (d : TrD) (q : Bool) (e : Ending) (w' : World) : Prop := ∃ v, e = .returned (.tuple #[v, .bool q]) ∧ OwnT w.heap.size w' v d ∧ Below w.heap.size w w'
def TrD.zero : TrD := ⟨0, 0, 0, fun _ => 0, fun _ => 0, fun _ => 0, fun _ => 0, fun _ => 0, 0⟩
theorem OwnT.zero {base : Nat} {w : World} : OwnT base w (.agg #[.slice none 0 0, .slice none 0 0, .int .i64 0, .slice none 0 0]) TrD.zero :=
  ⟨_, _, _, rfl, ⟨_, _, rfl, Nat.le_refl _, fun h => absurd h (by simp [TrD.zero])⟩, ⟨_, _, rfl, Nat.le_refl _, fun h => absurd h (by simp [TrD.zero])⟩, ⟨_, _, rfl, Nat.le_refl _, fun h => absurd h (by simp [TrD.zero])⟩,
    fun h => absurd h (by simp [TrD.zero]), fun h => absurd h (by simp [TrD.zero]), fun h => absurd h (by simp [TrD.zero])⟩
theorem Turned.set {lo hi : Nat} {w : World} {b o : Nat} (h1 : lo ≤ b) (h2 : b < hi) (v : Value) : Turned lo hi w (w.setCell ⟨b, o, none⟩ v) :=
  ⟨rfl, rfl, rfl, by rw [size_set]; exact Nat.le_refl _, fun k hk hr => Below.heap_setCell w ⟨b, o, none⟩ v k (fun e => by simp at e; omega)⟩
/-- A transition with the marks from k0 on. -/
def TrD.mark (d : TrD) (k0 : Int) : TrD := { d with X := fun i => k0 + 2 * i, Y := fun i => k0 + 2 * i + 1, U := fun i => k0 + 2 * d.n + 2 * i, V := fun i => k0 + 2 * d.n + 2 * i + 1, P := fun i => k0 + 2 * d.n + 2 * d.m + i }
def MarkAnsT (base : Nat) (v : Value) (d : TrD) (k0 : Int) (w : World) (e : Ending) (w' : World) : Prop :=
  e = .returned (.int .i64 (k0 + 2 * d.n + 2 * d.m + d.l)) ∧ OwnT base w' v (d.mark k0) ∧ ∀ wx dx, Trn wx v dx → dx.n = d.n → dx.m = d.m → dx.l = d.l → Turned base wx.heap.size w w'
theorem OwnS.only {base : Nat} {w w' : World} {t : Value} {m : Nat} {U V : Nat → Int} {row : Option Nat} (h : OwnS base w t m U V) (hg : w.grownBy w' row) (hr : 0 < m → row ≠ t.ownBlock) : OwnS base w' t m U V := by
  obtain ⟨A, c, rfl, hc, hrow⟩ := h
  refine ⟨A, c, rfl, hc, fun hm => ?_⟩
  obtain ⟨b, o, rfl, h1, h2, h3⟩ := hrow hm
  have := hr hm
  exact ⟨b, o, rfl, h1, h2.only (h3.lt hm) hg this, h3.only hg this⟩
theorem OwnI.only {base : Nat} {w w' : World} {t : Value} {m : Nat} {U : Nat → Int} {row : Option Nat} (h : OwnI base w t m U) (hg : w.grownBy w' row) (hr : 0 < m → row ≠ t.ownBlock) : OwnI base w' t m U := by
  obtain ⟨A, c, rfl, hc, hrow⟩ := h
  refine ⟨A, c, rfl, hc, fun hm => ?_⟩
  obtain ⟨b, o, rfl, h1, h2, h3⟩ := hrow hm
  have := hr hm
  exact ⟨b, o, rfl, h1, h2.only (h3.lt hm) hg this, h3.only hg this⟩
theorem own_someS {base : Nat} {w : World} {t : Value} {m : Nat} {U V : Nat → Int} (h : OwnS base w t m U V) (hm : 0 < m) : t.ownBlock ≠ none := by
  obtain ⟨A, c, rfl, hc, hrow⟩ := h
  obtain ⟨b, o, rfl, _⟩ := hrow hm
  simp [Value.ownBlock]
theorem own_someI {base : Nat} {w : World} {t : Value} {m : Nat} {U : Nat → Int} (h : OwnI base w t m U) (hm : 0 < m) : t.ownBlock ≠ none := by
  obtain ⟨A, c, rfl, hc, hrow⟩ := h
  obtain ⟨b, o, rfl, _⟩ := hrow hm
  simp [Value.ownBlock]
theorem row_ne {n m : Nat} {f t : Value} (h : 0 < n → 0 < m → f.ownBlock ≠ t.ownBlock) (ht : 0 < m → t.ownBlock ≠ none) : 0 < m → (if n = 0 then none else f.ownBlock) ≠ t.ownBlock := by
  intro hm
  split
  · exact fun e => ht hm e.symm
  · exact h (by omega) hm
end Go.Proofs.Ytljdhicmcmppgaa
namespace Go.Proofs.Ytljdhicmcmppgaa
open Go.RowKit Go.ChangeShapes Go.WideShapes Go.Sort

/-- A cursor's box at p: bytes that lie below p, a place from 0 to K, a seed. -/
structure CurAt (w : World) (p K : Nat) : Prop where
  ex : ∃ (A : Option Addr) (n c : Nat) (a : Nat) (s : Int), w.cell? ⟨p, 0, none⟩ = some (.slice A n c) ∧ w.cell? ⟨p, 1, none⟩ = some (.int .i64 a) ∧ w.cell? ⟨p, 2, none⟩ = some (.int .u64 s) ∧ a ≤ K ∧ n ≤ 9223372036854775807 ∧ n ≤ c ∧
    (0 < n → ∃ (b o : Nat) (Z : Nat → Int), A = some ⟨b, o, none⟩ ∧ b < p ∧ ∀ i, i < n → w.cell? ⟨b, o + i, none⟩ = some (.int .u8 (Z i)) ∧ 0 ≤ Z i ∧ Z i < 256)
  free : Free w p
  lt : p < w.heap.size
theorem CurAt.more {w : World} {p K K' : Nat} (h : CurAt w p K) (hk : K ≤ K') : CurAt w p K' := by
  obtain ⟨⟨A, n, c, a, s, h0, h1, h2, h3, h4⟩, hf, hl⟩ := h
  exact ⟨⟨A, n, c, a, s, h0, h1, h2, by omega, h4⟩, hf, hl⟩
theorem CurAt.up {w w' : World} {p K : Nat} (h : CurAt w p K) (hb : Below w.heap.size w w') : CurAt w' p K := by
  obtain ⟨⟨A, n, c, a, s, h0, h1, h2, h3, h4, h5, h6⟩, hf, hl⟩ := h
  refine ⟨⟨A, n, c, a, s, up_keep hb h0, up_keep hb h1, up_keep hb h2, h3, h4, h5, fun hn => ?_⟩, hf.up hl hb, by have := hb.size; omega⟩
  obtain ⟨b, o, Z, e, hbp, hz⟩ := h6 hn
  exact ⟨b, o, Z, e, hbp, fun i hi => ⟨up_keep hb (hz i hi).1, (hz i hi).2⟩⟩
/-- Returned: a number below N; only the cursor has turned. -/
def AnsCur (w : World) (p K N : Nat) (e : Ending) (w' : World) : Prop := ∃ x : Nat, e = .returned (.int .i64 x) ∧ x < N ∧ CurAt w' p K ∧ Turned p (p + 1) w w'
theorem and255 (s : Int) : ∃ x : Nat, bits .and .u64 s 255 = (x : Int) ∧ x < 256 := by
  refine ⟨(BitVec.ofInt 64 s &&& BitVec.ofInt 64 255).toNat, ?_, ?_⟩
  · show IntKind.u64.wrap ((BitVec.ofInt 64 s &&& BitVec.ofInt 64 255).toNat : Int) = _
    have := (BitVec.ofInt 64 s &&& BitVec.ofInt 64 255).isLt
    exact IntWalk.u64_in _ (by omega)
  · rw [BitVec.toNat_and]
    exact Nat.lt_of_le_of_lt Nat.and_le_right (by decide)
theorem CurAt.step {w : World} {p K : Nat} (hc : CurAt w p K) (a : Nat) (ha : a ≤ K) (s' : Int) {s : Int} (h1 : w.cell? ⟨p, 1, none⟩ = some (.int .i64 a)) (h2 : w.cell? ⟨p, 2, none⟩ = some (.int .u64 s)) :
    CurAt ((w.setCell ⟨p, 1, none⟩ (.int .i64 ((a : Int) + 1))).setCell ⟨p, 2, none⟩ (.int .u64 s')) p (K + 1) := by
  obtain ⟨⟨A, n, c, a0, s0, h0, _, _, _, h4, h5, h6⟩, hf, hl⟩ := hc
  refine ⟨⟨A, n, c, a + 1, s', ?_, ?_, ?_, by omega, h4, h5, fun hn => ?_⟩, (hf.set _ _).set _ _, by rw [size_set, size_set]; exact hl⟩
  · rw [cell_set_ne _ _ _ _ _ _ (by omega), cell_set_ne _ _ _ _ _ _ (by omega)]; exact h0
  · rw [cell_set_ne _ _ _ _ _ _ (by omega)]; exact cell_set_same _ _ _ _ _ h1
  · refine cell_set_same _ _ _ (.int .u64 s) _ ?_
    rw [cell_set_ne _ _ _ _ _ _ (by omega)]; exact h2
  · obtain ⟨b, o, Z, e, hbp, hz⟩ := h6 hn
    refine ⟨b, o, Z, e, hbp, fun i hi => ⟨?_, (hz i hi).2⟩⟩
    rw [cell_set_ne _ _ _ _ _ _ (by omega), cell_set_ne _ _ _ _ _ _ (by omega)]; exact (hz i hi).1
theorem Turned.two (w : World) (p : Nat) (u v : Value) : Turned p (p + 1) w ((w.setCell ⟨p, 1, none⟩ u).setCell ⟨p, 2, none⟩ v) :=
  (Turned.set (Nat.le_refl _) (by omega) u).trans (Turned.set (Nat.le_refl _) (by omega) v)
/-- The cells of a cursor's box, at a world that holds them. -/
structure CurC (w : World) (p : Nat) (A : Option Addr) (n c : Nat) (a : Int) (s : Int) : Prop where
  c0 : w.cell? ⟨p, 0, none⟩ = some (.slice A n c)
  c1 : w.cell? ⟨p, 1, none⟩ = some (.int .i64 a)
  c2 : w.cell? ⟨p, 2, none⟩ = some (.int .u64 s)
  f1 : w.frozen? ⟨p, 1, none⟩ = false
  f2 : w.frozen? ⟨p, 2, none⟩ = false
set_option maxRecDepth 100000 in
set_option maxHeartbeats 4000000 in
theorem cur_next (p K : Nat) (w : World) (h : CurAt w p K) (hK : K ≤ 1099511627776) :
    Calls Try.prog 72 #[.pointer (some ⟨p, 0, none⟩)] w (AnsCur w p (K + 1) 256) := by
  have HC := Lib.hid h
  obtain ⟨⟨A, n, c, a, s, h0, h1, h2, h3, h4, h5, h6⟩, hf, hl⟩ := h
  have f1 := hf 1
  have f2 := hf 2
  have HZ := Lib.hid h6
  clear h6
  by_cases hlt : a < n
  · obtain ⟨b, o, Z, rfl, hbp, hz⟩ := HZ.out (by omega)
    have c0 := (hz a hlt).1
    have c1 := (hz a hlt).2
    have HZ2 := Lib.hid hz
    clear hz
    have j1 : (a : Int) < (n : Int) := by omega
    go_enter Try.func72, Try.ntmps72
    go_wp2_with fail
    go_quiet (fail)
    have hb1 : Below w.heap.size w (w.drewN nq) := up_drewN (Below.refl _ _) nq
    replace h0 := up_keep hb1 h0
    replace h1 := up_keep hb1 h1
    replace h2 := up_keep hb1 h2
    replace c0 := up_keep hb1 c0
    have hf1 := hf.up hl hb1
    have HC1 := Lib.hid (HC.out.up hb1)
    have hl1 : p < (w.drewN nq).heap.size := by have := hb1.size; omega
    clear HC hf
    generalize w.drewN nq = w1 at *
    go_wp2_with fail
    go_quiet (fail)
    have hb2 : Below w1.heap.size w1 (w1.drewN nq) := up_drewN (Below.refl _ _) nq
    replace h0 := up_keep hb2 h0
    replace h1 := up_keep hb2 h1
    replace h2 := up_keep hb2 h2
    have hf2 := hf1.up hl1 hb2
    have hl2 : p < (w1.drewN nq).heap.size := by have := hb2.size; omega
    clear hf1 f1 f2
    generalize w1.drewN nq = w2 at *
    have f1 := hf2 1
    have f2 := hf2 2
    go_wp2_with fail
    have hs3 := CurAt.step (HC1.out.up hb2) a h3 (IntKind.u64.wrap (IntKind.u64.wrap (IntKind.u64.wrap (s * 6364136223846793005) + Z a) + 1442695040888963407)) h1 h2
    have ht3 := Turned.two w2 p (.int .i64 ((a : Int) + 1)) (.int .u64 (IntKind.u64.wrap (IntKind.u64.wrap (IntKind.u64.wrap (s * 6364136223846793005) + Z a) + 1442695040888963407)))
    have g0 := (cell_set_ne (w2.setCell ⟨p, 1, none⟩ (.int .i64 ((a : Int) + 1))) p 2 (.int .u64 (IntKind.u64.wrap (IntKind.u64.wrap (IntKind.u64.wrap (s * 6364136223846793005) + Z a) + 1442695040888963407))) p 0 (by omega)).trans ((cell_set_ne w2 p 1 (.int .i64 ((a : Int) + 1)) p 0 (by omega)).trans h0)
    have g1 := (cell_set_ne (w2.setCell ⟨p, 1, none⟩ (.int .i64 ((a : Int) + 1))) p 2 (.int .u64 (IntKind.u64.wrap (IntKind.u64.wrap (IntKind.u64.wrap (s * 6364136223846793005) + Z a) + 1442695040888963407))) p 1 (by omega)).trans (cell_set_same w2 p 1 _ (.int .i64 ((a : Int) + 1)) h1)
    have HF2 := Lib.hid hf2
    clear h0 h1 h2 f1 f2 hf2 hl2
    generalize World.setCell (World.setCell w2 _ _) _ _ = w3 at *
    have j2 : (a : Int) + 1 ≤ (n : Int) := by omega
    go_quiet (fail)
    have hb4 : Below w3.heap.size w3 (w3.drewN nq) := up_drewN (Below.refl _ _) nq
    have hs4 := hs3.up hb4
    generalize w3.drewN nq = w4 at *
    go_wp2_with fail
    go_ret
    refine ⟨(Z a).toNat, by rw [show (((Z a).toNat : Nat) : Int) = Z a by omega]; rfl, by omega, hs4, ?_⟩
    exact (((Turned.of_below hb1).trans (Turned.of_below hb2)).trans ht3).trans (Turned.of_below hb4)
  · have j1 : ¬ (a : Int) < (n : Int) := by omega
    go_enter Try.func72, Try.ntmps72
    go_wp2_with fail
    go_quiet (fail)
    have hb1 : Below w.heap.size w (w.drewN nq) := up_drewN (Below.refl _ _) nq
    replace h0 := up_keep hb1 h0
    replace h1 := up_keep hb1 h1
    replace h2 := up_keep hb1 h2
    have hf1 := hf.up hl hb1
    have HC1 := Lib.hid (HC.out.up hb1)
    have hl1 : p < (w.drewN nq).heap.size := by have := hb1.size; omega
    clear HC hf f1 f2
    generalize w.drewN nq = w2 at *
    have f1 := hf1 1
    have f2 := hf1 2
    go_wp2_with fail
    generalize IntKind.u64.wrap (IntKind.u64.wrap (IntKind.u64.wrap (s * 6364136223846793005)) + 1442695040888963407) = s2 at *
    have hs3 := CurAt.step HC1.out a h3 s2 h1 h2
    have ht3 := Turned.two w2 p (.int .i64 ((a : Int) + 1)) (.int .u64 s2)
    have g0 := (cell_set_ne (w2.setCell ⟨p, 1, none⟩ (.int .i64 ((a : Int) + 1))) p 2 (.int .u64 s2) p 0 (by omega)).trans ((cell_set_ne w2 p 1 (.int .i64 ((a : Int) + 1)) p 0 (by omega)).trans h0)
    have g1 := (cell_set_ne (w2.setCell ⟨p, 1, none⟩ (.int .i64 ((a : Int) + 1))) p 2 (.int .u64 s2) p 1 (by omega)).trans (cell_set_same w2 p 1 _ (.int .i64 ((a : Int) + 1)) h1)
    have g2 := cell_set_same (w2.setCell ⟨p, 1, none⟩ (.int .i64 ((a : Int) + 1))) p 2 (.int .u64 s) (.int .u64 s2) ((cell_set_ne w2 p 1 (.int .i64 ((a : Int) + 1)) p 2 (by omega)).trans h2)
    clear h0 h1 h2 f1 f2 hf1 hl1
    generalize World.setCell (World.setCell w2 _ _) _ _ = w3 at *
    have j2 : ¬ (a : Int) + 1 ≤ (n : Int) := by omega
    go_quiet (fail)
    have hb4 : Below w3.heap.size w3 (w3.drewN nq) := up_drewN (Below.refl _ _) nq
    have hs4 := hs3.up hb4
    replace g2 := up_keep hb4 g2
    clear g0 g1
    generalize w3.drewN nq = w4 at *
    obtain ⟨x, ex, hx⟩ := and255 (s2 / 1099511627776)
    go_wp2_with fail
    trace_state
    go_ret
    refine ⟨x, by rw [← ex]; rfl, hx, hs4, ?_⟩
    exact ((Turned.of_below hb1).trans ht3).trans (Turned.of_below hb4)
end Go.Proofs.Ytljdhicmcmppgaa
namespace Go.Proofs.Ytljdhicmcmppgaa
open Go.RowKit Go.ChangeShapes Go.WideShapes Go.Sort

/-- Returned: a number from lo to hi; only the cursor has turned. -/
def AnsRng (w : World) (p K : Nat) (lo hi : Int) (e : Ending) (w' : World) : Prop := ∃ x : Int, e = .returned (.int .i64 x) ∧ (lo ≤ x ∧ x ≤ hi) ∧ CurAt w' p K ∧ Turned p (p + 1) w w'
/-- Returned: a Bool; only the cursor has turned. -/
def AnsOne (w : World) (p K : Nat) (e : Ending) (w' : World) : Prop := ∃ x : Bool, e = .returned (.bool x) ∧ CurAt w' p K ∧ Turned p (p + 1) w w'
theorem Turned.far {lo hi : Nat} {w w1 w2 : World} (h : Turned lo hi w w1) (hb : Below w.heap.size w1 w2) : Turned lo hi w w2 :=
  ⟨hb.os.trans h.os, hb.tape.trans h.tape, hb.output.trans h.output, Nat.le_trans h.size hb.size, fun k hk hr => (hb.block k hk).trans (h.block k hk hr)⟩
theorem CurAt.below {w w' : World} {p K m : Nat} (h : CurAt w p K) (hb : Below m w w') (hm : p < m) : CurAt w' p K := by
  obtain ⟨⟨A, n, c, a, s, h0, h1, h2, h3, h4, h5, h6⟩, hf, hl⟩ := h
  refine ⟨⟨A, n, c, a, s, ?_, ?_, ?_, h3, h4, h5, fun hn => ?_⟩, fun o => ?_, by have := hb.size; omega⟩
  · rw [hb.cell (p := ⟨p, 0, none⟩) hm]; exact h0
  · rw [hb.cell (p := ⟨p, 1, none⟩) hm]; exact h1
  · rw [hb.cell (p := ⟨p, 2, none⟩) hm]; exact h2
  · obtain ⟨b, o, Z, e, hbp, hz⟩ := h6 hn
    exact ⟨b, o, Z, e, hbp, fun i hi => ⟨by rw [hb.cell (p := ⟨b, o + i, none⟩) (show b < m by omega)]; exact (hz i hi).1, (hz i hi).2⟩⟩
  · rw [hb.frozen (p := ⟨p, o, none⟩) hm]; exact hf o
theorem tmod_nat (x n : Nat) : Int.tmod (x : Int) (n : Int) = ((x % n : Nat) : Int) := rfl
set_option maxRecDepth 100000 in
set_option maxHeartbeats 2000000 in
theorem cur_pick (p K n : Nat) (w : World) (h : CurAt w p K) (hK : K ≤ 1000000000) (hn : n ≤ 1000000000) :
    Calls Try.prog 50 #[.pointer (some ⟨p, 0, none⟩), .int .i64 n] w (AnsCur w p (K + 2) (max n 1)) := by
  by_cases h1 : n ≤ 1
  · have j1 : (n : Int) ≤ 1 := by omega
    go_enter Try.func50, Try.ntmps50
    go_wp2_with fail
    go_ret
    exact ⟨0, rfl, by omega, h.more (by omega), Turned.refl _ _ _⟩
  · have j1 : ¬ (n : Int) ≤ 1 := by omega
    have j0 : ¬ (n : Int) = 0 := by omega
    by_cases h2 : n ≤ 200
    · have j2 : ¬ (n : Int) > 200 := by omega
      go_enter Try.func50, Try.ntmps50
      go_wp2_with fail
      refine (cur_next p K _ h (by omega)).mono ?_
      rintro e w1 ⟨x, rfl, hx, hc1, ht1⟩
      go_wp2_with fail
      go_ret
      exact ⟨x % n, rfl, by have := Nat.mod_lt x (show n > 0 by omega); omega, hc1.more (by omega), ht1⟩
    · have j2 : (n : Int) > 200 := by omega
      go_enter Try.func50, Try.ntmps50
      go_wp2_with fail
      refine (cur_next p K _ h (by omega)).mono ?_
      rintro e w1 ⟨x, rfl, hx, hc1, ht1⟩
      go_wp2_with fail
      refine (cur_next p (K + 1) _ hc1 (by omega)).mono ?_
      rintro e w2 ⟨y, rfl, hy, hc2, ht2⟩
      go_wp2_with fail
      go_ret
      exact ⟨(x * 256 + y) % n, rfl, by have := Nat.mod_lt (x * 256 + y) (show n > 0 by omega); omega, hc2, ht1.trans ht2⟩
set_option maxRecDepth 100000 in
theorem cur_one (p K n : Nat) (w : World) (h : CurAt w p K) (hK : K ≤ 1000000000) (hn : n ≤ 1000000000) :
    Calls Try.prog 65 #[.pointer (some ⟨p, 0, none⟩), .int .i64 n] w (AnsOne w p (K + 2)) := by
  go_enter Try.func65, Try.ntmps65
  go_wp2_with fail
  refine (cur_pick p K n _ h hK hn).mono ?_
  rintro e w1 ⟨x, rfl, hx, hc1, ht1⟩
  go_wp2_with fail
  go_ret
  exact ⟨_, rfl, hc1, ht1⟩
set_option maxRecDepth 100000 in
theorem cur_among (p K b m : Nat) (lo hi : Int) (w : World) (h : CurAt w p K) (hK : K ≤ 1000000000) (h1 : 1 ≤ m) (hm : m ≤ 1000000) (hpb : p < b)
    (hr : ∀ i, i < m → ∃ x : Int, w.cell? ⟨b, i, none⟩ = some (.int .i64 x) ∧ lo ≤ x ∧ x ≤ hi) :
    Calls Try.prog 49 #[.pointer (some ⟨p, 0, none⟩), .slice (some ⟨b, 0, none⟩) m m] w (AnsRng w p (K + 2) lo hi) := by
  have HR := Lib.hid hr
  clear hr
  go_enter Try.func49, Try.ntmps49
  go_wp2_with fail
  refine (cur_pick p K m _ h hK (by omega)).mono ?_
  rintro e w1 ⟨x, rfl, hx, hc1, ht1⟩
  have hxm : x < m := by omega
  obtain ⟨y, hy, hy1, hy2⟩ := HR.out x hxm
  have c1 := ht1.cell hy (by omega)
  have j1 : (x : Int) < (m : Int) := by omega
  clear hy
  go_wp2_with fail
  go_ret
  exact ⟨y, rfl, ⟨hy1, hy2⟩, hc1, ht1⟩
end Go.Proofs.Ytljdhicmcmppgaa
namespace Go.Proofs.Ytljdhicmcmppgaa
open Go.RowKit Go.ChangeShapes Go.WideShapes Go.Sort

/-- The region with number n in a code. -/
def findRegion (n : Nat) : Code → Option Code
  | .region id l b => if id = n then some (.region id l b) else none
  | .seq a b => match findRegion n a with
    | some c => some c
    | none => findRegion n b
  | .cond _ a b => match findRegion n a with
    | some c => some c
    | none => findRegion n b
  | .loop c => findRegion n c
  | .block _ c => findRegion n c
  | .scope c => findRegion n c
  | _ => none
/-- The 'if' over slot n in a code. -/
def findIf (n : Nat) : Code → Option Code
  | .cond (.tmp m) a b => if m = n then some (.cond (.tmp m) a b) else match findIf n a with
    | some c => some c
    | none => findIf n b
  | .cond _ a b => match findIf n a with
    | some c => some c
    | none => findIf n b
  | .seq a b => match findIf n a with
    | some c => some c
    | none => findIf n b
  | .loop c => findIf n c
  | .block _ c => findIf n c
  | .scope c => findIf n c
  | _ => none
/-- The number of a code's first region. -/
def firstRegion : Code → Option Nat
  | .region id _ _ => some id
  | .seq a b => match firstRegion a with
    | some c => some c
    | none => firstRegion b
  | .cond _ a b => match firstRegion a with
    | some c => some c
    | none => firstRegion b
  | .loop c => firstRegion c
  | .block _ c => firstRegion c
  | .scope c => firstRegion c
  | _ => none
/-- The loop whose first region is n. -/
def findLoop (n : Nat) : Code → Option Code
  | .loop c => if firstRegion c = some n then some (.loop c) else findLoop n c
  | .seq a b => match findLoop n a with
    | some c => some c
    | none => findLoop n b
  | .cond _ a b => match findLoop n a with
    | some c => some c
    | none => findLoop n b
  | .block _ c => findLoop n c
  | .scope c => findLoop n c
  | _ => none
/-- A region in the order of its text, by the quiet walk. -/
theorem wpList_of_quiet {P : Program} {ops : Array Oper} {C : World → Prop} {Q : Exit → Act → World → Prop} : ∀ (l : List Oper) (a : Act) (w : World), C w →
    wpQuiet P ops C (fun a' => ∀ w', C w' → Q .normal a' w') l a → wpList P ops Q l a w := by
  intro l
  induction l with
  | nil => intro a w hC h; exact h w hC
  | cons o rest ih =>
    intro a w hC h
    unfold wpQuiet at h
    unfold wpList
    split
    · rename_i hw
      rw [if_pos hw] at h
      obtain ⟨v, h1, h2⟩ := h
      refine .inl ?_
      have hq := h1 w hC
      unfold Oper.quietAt at hq
      unfold Oper.wp
      revert hq
      cases hr : (execOp a.eval o).run P w with
      | ok n w' =>
        cases n with
        | value u => rintro ⟨rfl, rfl⟩; exact ih _ _ hC h2
        | skip => rintro ⟨rfl, rfl⟩; exact ih _ _ hC h2
        | enter f args =>
          rintro ⟨rfl, hc⟩
          refine hc.mono ?_
          rintro e w'' ⟨rfl, hC'⟩
          exact ih _ _ hC' h2
        | _ => intro hq; exact hq.elim
      | _ => intro hq; exact hq.elim
    · rename_i hw
      rw [if_neg hw] at h
      exact ih _ _ hC h
theorem wp_region_upP {P : Program} {id : Nat} {Q : Exit → Act → World → Prop} {a : Act} {w : World} {l : List Oper}
    (h : wpQuiet P l.toArray (fun w' => ∃ p : Regrown, w' = grow (redrawn w p.d) p.os) (fun a' => ∀ w', Below w.heap.size w w' → Q .normal a' w') l a) : (Code.region id l.toArray false).wp P Q a w := by
  have mono : ∀ (l' : List Oper) (a : Act), wpQuiet P l.toArray (fun w' => ∃ p : Regrown, w' = grow (redrawn w p.d) p.os) (fun a' => ∀ w', Below w.heap.size w w' → Q .normal a' w') l' a →
      wpQuiet P l.toArray (fun w' => ∃ p : Regrown, w' = grow (redrawn w p.d) p.os) (fun a' => ∀ w', (∃ p : Regrown, w' = grow (redrawn w p.d) p.os) → Q .normal a' w') l' a := by
    intro l'
    induction l' with
    | nil => intro a h w' hw'; obtain ⟨p, rfl⟩ := hw'; exact h _ (below_regrown _ _ _)
    | cons o rest ih =>
      intro a h
      unfold wpQuiet at h ⊢
      split
      · rename_i hw; rw [if_pos hw] at h; exact Oper.quiet_mono (fun a => ih a) h
      · rename_i hw; rw [if_neg hw] at h; exact ih _ h
  exact wp_region_lit (wpList_of_quiet l a w ⟨⟨w.drawn, #[]⟩, by rw [grow_empty]; rfl⟩ (mono l a h))
end Go.Proofs.Ytljdhicmcmppgaa
namespace Go.Proofs.Ytljdhicmcmppgaa
open Go.RowKit

/-- The cells of n ints. -/
def cells1 (X : Nat → Int) (n : Nat) : List Value := (List.range n).map fun i => .int .i64 (X i)
theorem cells1_len (X : Nat → Int) (n : Nat) : (cells1 X n).length = n := by simp [cells1]
theorem cells1_get (X : Nat → Int) (n i : Nat) (h : i < n) : (cells1 X n)[i]? = some (.int .i64 (X i)) := by simp [cells1, h]
theorem cells1_succ (X : Nat → Int) (n : Nat) : cells1 X (n + 1) = cells1 X n ++ [.int .i64 (X n)] := by simp [cells1, List.range_succ]
/-- The slice value v is one of the call's own, with n ints, from block base on. -/
def OwnN (base : Nat) (w : World) (v : Value) (n : Nat) (X : Nat → Int) : Prop := w.ownsRow base 3 1 v n (cells1 X n)
theorem OwnN.ownI {base : Nat} {w : World} {v : Value} {n : Nat} {X : Nat → Int} (h : OwnN base w v n X) : OwnI base w v n X := by
  have h0 := h
  rcases h.2 with ⟨rfl, rfl⟩ | ⟨g, cap, cur, rfl, hb, hg, hnc, _⟩
  · exact ⟨_, _, rfl, Nat.le_refl _, fun hn => absurd hn (by omega)⟩
  · refine ⟨_, _, rfl, hnc, fun hn => ⟨g, 0, rfl, hb, fun o => World.ownsRow.frozenAt h0 o, fun i hi => ?_⟩⟩
    rw [Nat.zero_add, World.ownsRow.cellAt h0 _ (by omega)]
    exact cells1_get X n i hi
theorem OwnN.up {base : Nat} {w w' : World} {v : Value} {n : Nat} {X : Nat → Int} (h : OwnN base w v n X) (hb : Below w.heap.size w w') : OwnN base w' v n X :=
  World.ownsRow.kept (row := none) h ⟨hb.os, hb.tape, hb.output, hb.size, fun k hk _ => hb.block k hk⟩ (by cases v.ownBlock <;> simp)
theorem OwnN.nil (base : Nat) (w : World) (X : Nat → Int) : OwnN base w (.slice none 0 0) 0 X := World.ownsRow_nil _ _ _ _
theorem OwnN.empty {base : Nat} {w : World} (hb : base ≤ w.heap.size) (X : Nat → Int) : OwnN base (w.alloc (.cells #[] 3)) (.slice (some ⟨w.heap.size, 0, none⟩) 0 0) 0 X :=
  World.ownsRow_made w #[] 0 hb (by unfold maxLen; omega) rfl
theorem OwnN.shape {base : Nat} {w : World} {v : Value} {n : Nat} {X : Nat → Int} (h : OwnN base w v n X) : ∃ A c, v = .slice A n c ∧ n ≤ c ∧ c ≤ maxLen := by
  rcases h.2 with ⟨rfl, rfl⟩ | ⟨g, cap, cur, rfl, hb, hg, hnc, hm, _⟩
  · exact ⟨none, 0, rfl, Nat.le_refl _, by unfold maxLen; omega⟩
  · exact ⟨_, _, rfl, hnc, hm⟩
set_option maxRecDepth 100000 in
theorem info_intN : (Try.prog.info? 3).map (fun i => (i.zero, i.size, i.bytes)) = some (some (.int .i64 0), 1, 8) := by kernel_rfl
set_option maxRecDepth 100000 in
/-- 'append(out, x)' wherever the one-element slice lies. -/
theorem run_app_int1 {w : World} (ty : TypeId) (base : Nat) (v : Value) (n : Nat) (X : Nat → Int) {g : Nat} {p : Int} (hp : X n = p)
    (hc0 : w.cell? ⟨g, 0, none⟩ = some (.int .i64 p)) (hown : OwnN base w v n X) (hbase : base ≤ w.heap.size) (hn : n ≤ 1048576) :
    ∃ v' w', (Builtin.append_ #[35, 35] ty #[v, .slice (some ⟨g, 0, none⟩) 1 1]).run Try.prog w = .ok v' w' ∧ OwnN base w' v' (n + 1) X ∧ Below base w w' ∧ w.grownBy w' v.ownBlock ∧ (v'.ownBlock = v.ownBlock ∨ v'.ownBlock = some w.heap.size) := by
  subst hp
  obtain ⟨i0, hi0, hz0, hz1, hz2⟩ := info_parts info_intN
  obtain ⟨v', w', hr, h1, h2, _, h5⟩ := run_append_own_at (P := Try.prog) w base 35 ty 3 i0 _ 1 8 Try.underlying35 hi0 hz0 hz1 hz2 rfl (by omega) v n _ hown ⟨g, 0, none⟩ 1 1
    [.int .i64 (X n)] rfl (by
      intro j u hu
      rw [add_none, Nat.zero_add]
      match j, hu with
      | 0, hu => simp only [List.getElem?_cons_zero, Option.some.injEq] at hu; subst hu; exact hc0) (by
      intro u hu
      simp only [List.mem_cons, List.not_mem_nil, or_false] at hu
      rcases hu with rfl; rfl) (by unfold maxLen; omega) (by omega) hbase
  exact ⟨v', w', hr, by unfold OwnN; rw [cells1_succ]; exact h1, below_grown h2 hbase (fun k hk => (World.ownsRow.lt hown k hk).1), h2, h5⟩
section
variable {ops : Array Oper} {rest : List Oper} {o : Oper} {a : Act} {w : World} {K : Act → World → Prop} {Q : Exit → Act → World → Prop} {E : Prop} (hgd : o.guard = none) (s x : Operand)
    (ho : o.op = .call { callee := .builtin .append, args := #[s, x], argTypes := #[35, 35] })
    (base : Nat) (v : Value) (n : Nat) (X : Nat → Int) {g : Nat} (hs : a.eval s = v) (hx : a.eval x = .slice (some ⟨g, 0, none⟩) 1 1)
    {p : Int} (hp : X n = p) (hc0 : w.cell? ⟨g, 0, none⟩ = some (.int .i64 p))
    (hown : OwnN base w v n X) (hbase : base ≤ w.heap.size) (hn : n ≤ 1048576)
include hgd ho hs hx hp hc0 hown hbase hn
theorem step_app_int
    (h : ∀ v' w', OwnN base w' v' (n + 1) X → Below base w w' → w.grownBy w' v.ownBlock → (v'.ownBlock = v.ownBlock ∨ v'.ownBlock = some w.heap.size) → K (a.put o.dst v') w') :
    if Region.wanted o (yielded ops a.tmps) = true then Oper.wp Try.prog o a w K Q else E := by
  have hw : Region.wanted o (yielded ops a.tmps) = true := by unfold Region.wanted; rw [hgd]
  rw [if_pos hw]
  obtain ⟨v', w', hr, h1, h2, h3, h4⟩ := run_app_int1 o.type base v n X hp hc0 hown hbase hn
  unfold Oper.wp execOp
  simp only [ho, resolve, invoke, builtin, Sem.run_bind, Sem.run_pure, Result.andThen_ok, List.map_toArray, List.map_cons, List.map_nil, hs, hx, hr]
  exact h _ _ h1 h2 h3 h4
theorem wpList_app_int2
    (h : ∀ v' w', OwnN base w' v' (n + 1) X → Below base w w' → w.grownBy w' v.ownBlock → (v'.ownBlock = v.ownBlock ∨ v'.ownBlock = some w.heap.size) → wpList Try.prog ops Q rest (a.put o.dst v') w') :
    wpList Try.prog ops Q (o :: rest) a w := by
  obtain ⟨v', w', hr, h1, h2, h3, h4⟩ := run_app_int1 o.type base v n X hp hc0 hown hbase hn
  refine wpList_plain hgd fun _ hK => ?_
  unfold Oper.wp execOp
  simp only [ho, resolve, invoke, builtin, Sem.run_bind, Sem.run_pure, Result.andThen_ok, List.map_toArray, List.map_cons, List.map_nil, hs, hx, hr]
  exact hK _ _ (h _ _ h1 h2 h3 h4)
end
set_option maxRecDepth 100000 in
theorem run_copy_ints {w : World} (ty : TypeId) (base : Nat) (v x : Value) (m : Nat) (X : Nat → Int) (hown : OwnN base w v 0 X) (hx : Ints w x m X) (hbase : base ≤ w.heap.size) (hn : m ≤ 1048576) :
    ∃ v' w', (Builtin.append_ #[35, 35] ty #[v, x]).run Try.prog w = .ok v' w' ∧ OwnN base w' v' m X ∧ Below base w w' := by
  obtain ⟨i0, hi0, hz0, hz1, hz2⟩ := info_parts info_intN
  obtain ⟨A, c, rfl, hmc, hrow⟩ := hx
  have hex : ∀ ad, A = some ad → (∀ j u, (cells1 X m)[j]? = some u → w.cell? (ad.add j) = some u) →
      ∃ v' w', (Builtin.append_ #[35, 35] ty #[v, .slice A m c]).run Try.prog w = .ok v' w' ∧ OwnN base w' v' m X ∧ Below base w w' := by
    intro ad hA hc
    subst hA
    obtain ⟨v', w', hr, h1, h2, _⟩ := run_append_own_at (P := Try.prog) w base 35 ty 3 i0 _ 1 8 Try.underlying35 hi0 hz0 hz1 hz2 rfl (by omega) v 0 _ hown ad m c (cells1 X m) (by rw [cells1_len, Nat.mul_one]) hc (by
      intro u hu
      obtain ⟨i, _, hi⟩ := List.mem_map.1 hu
      subst hi; rfl) (by unfold maxLen; omega) (by omega) hbase
    rw [Nat.zero_add] at h1
    exact ⟨v', w', hr, h1, below_grown h2 hbase (fun k hk => (World.ownsRow.lt hown k hk).1)⟩
  rcases Nat.eq_zero_or_pos m with h0 | h0
  · subst h0
    cases A with
    | some ad => exact hex ad rfl (fun j u hu => by simp [cells1] at hu)
    | none =>
      refine ⟨v, w, ?_, hown, Below.refl _ _⟩
      rcases hown.2 with ⟨rfl, _⟩ | ⟨g, cap, cur, rfl, _, _, hnc, _⟩
      · simp [Builtin.append_, run_underlying Try.underlying35, sizeOf, typeInfo, hi0, Builtin.lenOf, Builtin.firstCells]
      · simp [Builtin.append_, run_underlying Try.underlying35, sizeOf, typeInfo, hi0, Builtin.lenOf, Builtin.firstCells, storeCells]
  · obtain ⟨b, o, rfl, hr⟩ := hrow h0
    refine hex _ rfl (fun j u hu => ?_)
    have hj : j < m := by
      rcases Nat.lt_or_ge j m with h | h
      · exact h
      · rw [List.getElem?_eq_none (by rw [cells1_len]; exact h)] at hu; cases hu
    rw [add_none, hr j hj, ← cells1_get X m j hj]
    exact hu
/-- 'append([]int{}, l...)'. -/
theorem wpList_copy_ints {ops : Array Oper} {rest : List Oper} {o : Oper} {a : Act} {Q : Exit → Act → World → Prop} {w : World} (hgd : o.guard = none) (s x : Operand)
    (ho : o.op = .call { callee := .builtin .append, args := #[s, x], argTypes := #[35, 35] })
    (base : Nat) (v u : Value) (m : Nat) (X : Nat → Int) (hs : a.eval s = v) (hx : a.eval x = u) (hown : OwnN base w v 0 X) (hsp : Ints w u m X) (hbase : base ≤ w.heap.size) (hn : m ≤ 1048576)
    (h : ∀ v' w', OwnN base w' v' m X → Below base w w' → wpList Try.prog ops Q rest (a.put o.dst v') w') : wpList Try.prog ops Q (o :: rest) a w := by
  obtain ⟨v', w', hr, h1, h2⟩ := run_copy_ints (w := w) o.type base v u m X hown hsp hbase hn
  refine wpList_plain hgd fun _ hK => ?_
  unfold Oper.wp execOp
  simp only [ho, resolve, invoke, builtin, Sem.run_bind, Sem.run_pure, Result.andThen_ok, List.map_toArray, List.map_cons, List.map_nil, hs, hx, hr]
  exact hK _ _ (h v' w' h1 h2)
end Go.Proofs.Ytljdhicmcmppgaa
namespace Go.Proofs.Ytljdhicmcmppgaa
open Go.RowKit Go.ChangeShapes Go.WideShapes Go.Sort

/-- The slice value v reads as n bytes. -/
def Bytes (w : World) (v : Value) (n : Nat) : Prop := ∃ A c, v = .slice A n c ∧ n ≤ c ∧
  (0 < n → ∃ (b o : Nat) (Z : Nat → Int), A = some ⟨b, o, none⟩ ∧ b < w.heap.size ∧ ∀ i, i < n → w.cell? ⟨b, o + i, none⟩ = some (.int .u8 (Z i)) ∧ 0 ≤ Z i ∧ Z i < 256)
theorem Bytes.up {w w' : World} {v : Value} {n : Nat} (h : Bytes w v n) (hb : Below w.heap.size w w') : Bytes w' v n := by
  obtain ⟨A, c, e, hc, hr⟩ := h
  refine ⟨A, c, e, hc, fun hn => ?_⟩
  obtain ⟨b, o, Z, e, hlt, hz⟩ := hr hn
  exact ⟨b, o, Z, e, by have := hb.size; omega, fun i hi => ⟨up_keep hb (hz i hi).1, (hz i hi).2⟩⟩
/-- A cursor's new box. -/
theorem curAt_new {w : World} {A : Option Addr} {n c : Nat} (h : Bytes w (.slice A n c) n) (hn : n ≤ 9223372036854775807) (t : TypeId) : CurAt (w.alloc (.cells #[.slice A n c, .int .i64 0, .int .u64 0] t)) w.heap.size 0 := by
  obtain ⟨A', c', e, hc, hr⟩ := h
  injection e with e1 _ e2
  subst e1
  subst e2
  refine ⟨⟨A, n, c, 0, 0, by simp [go_sem], by simp [go_sem], by simp [go_sem], by omega, hn, hc, fun h0 => ?_⟩, fun o => by simp [go_sem], by simp⟩
  obtain ⟨b, o, Z, e, hlt, hz⟩ := hr h0
  exact ⟨b, o, Z, e, hlt, fun i hi => ⟨up_keep (below_alloc _ _) (hz i hi).1, (hz i hi).2⟩⟩
theorem cur_below {w w' : World} {o : Obj} (h : Turned w.heap.size (w.heap.size + 1) (w.alloc o) w') : Below w.heap.size w w' := (below_alloc w o).trans (h.below (by simp))
end Go.Proofs.Ytljdhicmcmppgaa
namespace Go.Proofs.Ytljdhicmcmppgaa
open Go.RowKit Go.Sort

/-- Two spots are equal. -/
def same (x y u v : Int) : Bool := x == u && y == v
theorem eql_spot (x y u v : Int) (w : World) : (binOp .eql 24 (.agg #[.int .i64 x, .int .i64 y]) (.agg #[.int .i64 u, .int .i64 v])).run Try.prog w = .ok (.bool (same x y u v)) w := by
  have u3 := Try.underlying3
  have a3 := Try.isAgg3
  have z3 := Try.sizeOf3
  have hS : Try.prog.underlying 24 = some (.struct (Try.prog.fieldsOf 24)) := by kernel_rfl
  have hp : Try.prog.stoodInHeld 24 = false := by kernel_rfl
  unfold same
  rw [run_eql_struct, show (10000 : Nat) = 9999 + 1 from rfl, run_equalIn_agg w 9999 24 _ _ hS hp]
  simp only [Program.fieldsOf, Try.underlying24]
  go_simp
  by_cases h1 : x = u <;> by_cases h2 : y = v <;> simp [h1, h2]
/-- n spots are a chart. -/
def okB (X Y : Nat → Int) (i : Nat) : Bool := spotB (X i) (Y i) && !hasB (fun j => same (X i) (Y i) (X j) (Y j)) i
def chartB (n : Nat) (X Y : Nat → Int) : Bool := inB n 1 12 && allB (okB X Y) n
theorem chartB_iff {n : Nat} {X Y : Nat → Int} : chartB n X Y = true ↔ (1 ≤ n ∧ n ≤ 12) ∧ (∀ i, i < n → spotB (X i) (Y i) = true) ∧ ∀ i j, i < n → j < i → ¬ (X i = X j ∧ Y i = Y j) := by
  unfold chartB
  rw [Bool.and_eq_true, inB_iff, allB_iff]
  constructor
  · rintro ⟨⟨h1, h2⟩, h⟩
    refine ⟨⟨by omega, by omega⟩, fun i hi => ?_, fun i j hi hj hc => ?_⟩
    · have := h i hi; unfold okB at this; rw [Bool.and_eq_true] at this; exact this.1
    · have := h i hi
      unfold okB at this
      rw [Bool.and_eq_true, Bool.not_eq_true'] at this
      have h3 : hasB (fun j => same (X i) (Y i) (X j) (Y j)) i = true := hasB_iff.2 ⟨j, hj, by unfold same; simp [hc.1, hc.2]⟩
      rw [this.2] at h3; cases h3
  · rintro ⟨⟨h1, h2⟩, hs, hd⟩
    refine ⟨⟨by omega, by omega⟩, fun i hi => ?_⟩
    unfold okB
    rw [Bool.and_eq_true, Bool.not_eq_true']
    refine ⟨hs i hi, ?_⟩
    cases hh : hasB (fun j => same (X i) (Y i) (X j) (Y j)) i with
    | false => rfl
    | true =>
      obtain ⟨j, hj, hp⟩ := hasB_iff.1 hh
      unfold same at hp
      simp only [Bool.and_eq_true, beq_iff_eq] at hp
      exact absurd hp (hd i j hi hj)
theorem chartB_cong {n : Nat} {X Y X' Y' : Nat → Int} (hx : ∀ i, i < n → X i = X' i) (hy : ∀ i, i < n → Y i = Y' i) : chartB n X Y = chartB n X' Y' := by
  cases h : chartB n X' Y' with
  | true =>
    rw [chartB_iff] at h ⊢
    exact ⟨h.1, fun i hi => by rw [hx i hi, hy i hi]; exact h.2.1 i hi, fun i j hi hj => by rw [hx i hi, hy i hi, hx j (by omega), hy j (by omega)]; exact h.2.2 i j hi hj⟩
  | false =>
    cases h' : chartB n X Y with
    | false => rfl
    | true =>
      exfalso
      have : chartB n X' Y' = true := by
        rw [chartB_iff] at h' ⊢
        exact ⟨h'.1, fun i hi => by rw [← hx i hi, ← hy i hi]; exact h'.2.1 i hi, fun i j hi hj => by rw [← hx i hi, ← hy i hi, ← hx j (by omega), ← hy j (by omega)]; exact h'.2.2 i j hi hj⟩
      rw [h] at this; cases this
end Go.Proofs.Ytljdhicmcmppgaa
namespace Go.Proofs.Ytljdhicmcmppgaa
open Go.RowKit Go.ChangeShapes Go.WideShapes

section
variable {H : Type} {enc : TypeId × Value → H} {P : Program} {w : World} {base : Nat} {spare : Nat → Bool} {held : Bool}
theorem args3 {t0 t1 t2 : TypeId} {args : Array Value} {ds : List (DataW H)} {ps : List MemPlace} (h : DataW.TrodAll enc P w base spare held [t0, t1, t2] args.toList ds ps) :
    ∃ v0 v1 v2 d0 d1 d2 p0 p1 p2, args = #[v0, v1, v2] ∧ DataW.Trod enc P w base spare held t0 v0 d0 p0 ∧ DataW.Trod enc P w base spare held t1 v1 d1 p1 ∧ DataW.Trod enc P w base spare held t2 v2 d2 p2 := by
  obtain ⟨v0, vs0, d0, ds0, p0, q0, hargs, rfl, rfl, h0, h⟩ := trodAll_cons h
  obtain ⟨v1, vs1, d1, ds1, p1, q1, rfl, rfl, rfl, h1, h⟩ := trodAll_cons h
  obtain ⟨v2, vs2, d2, ds2, p2, q2, rfl, rfl, rfl, h2, h⟩ := trodAll_cons h
  obtain ⟨rfl, rfl, rfl⟩ := trodAll_nil h
  exact ⟨v0, v1, v2, d0, d1, d2, p0, p1, p2, by cases args; simp_all, h0, h1, h2⟩
theorem args4 {t0 t1 t2 t3 : TypeId} {args : Array Value} {ds : List (DataW H)} {ps : List MemPlace} (h : DataW.TrodAll enc P w base spare held [t0, t1, t2, t3] args.toList ds ps) :
    ∃ v0 v1 v2 v3 d0 d1 d2 d3 p0 p1 p2 p3, args = #[v0, v1, v2, v3] ∧ DataW.Trod enc P w base spare held t0 v0 d0 p0 ∧ DataW.Trod enc P w base spare held t1 v1 d1 p1 ∧ DataW.Trod enc P w base spare held t2 v2 d2 p2 ∧ DataW.Trod enc P w base spare held t3 v3 d3 p3 := by
  obtain ⟨v0, vs0, d0, ds0, p0, q0, hargs, rfl, rfl, h0, h⟩ := trodAll_cons h
  obtain ⟨v1, vs1, d1, ds1, p1, q1, rfl, rfl, rfl, h1, h⟩ := trodAll_cons h
  obtain ⟨v2, vs2, d2, ds2, p2, q2, rfl, rfl, rfl, h2, h⟩ := trodAll_cons h
  obtain ⟨v3, vs3, d3, ds3, p3, q3, rfl, rfl, rfl, h3, h⟩ := trodAll_cons h
  obtain ⟨rfl, rfl, rfl⟩ := trodAll_nil h
  exact ⟨v0, v1, v2, v3, d0, d1, d2, d3, p0, p1, p2, p3, by cases args; simp_all, h0, h1, h2, h3⟩
theorem args5 {t0 t1 t2 t3 t4 : TypeId} {args : Array Value} {ds : List (DataW H)} {ps : List MemPlace} (h : DataW.TrodAll enc P w base spare held [t0, t1, t2, t3, t4] args.toList ds ps) :
    ∃ v0 v1 v2 v3 v4 d0 d1 d2 d3 d4 p0 p1 p2 p3 p4, args = #[v0, v1, v2, v3, v4] ∧ DataW.Trod enc P w base spare held t0 v0 d0 p0 ∧ DataW.Trod enc P w base spare held t1 v1 d1 p1 ∧ DataW.Trod enc P w base spare held t2 v2 d2 p2 ∧ DataW.Trod enc P w base spare held t3 v3 d3 p3 ∧ DataW.Trod enc P w base spare held t4 v4 d4 p4 := by
  obtain ⟨v0, vs0, d0, ds0, p0, q0, hargs, rfl, rfl, h0, h⟩ := trodAll_cons h
  obtain ⟨v1, vs1, d1, ds1, p1, q1, rfl, rfl, rfl, h1, h⟩ := trodAll_cons h
  obtain ⟨v2, vs2, d2, ds2, p2, q2, rfl, rfl, rfl, h2, h⟩ := trodAll_cons h
  obtain ⟨v3, vs3, d3, ds3, p3, q3, rfl, rfl, rfl, h3, h⟩ := trodAll_cons h
  obtain ⟨v4, vs4, d4, ds4, p4, q4, rfl, rfl, rfl, h4, h⟩ := trodAll_cons h
  obtain ⟨rfl, rfl, rfl⟩ := trodAll_nil h
  exact ⟨v0, v1, v2, v3, v4, d0, d1, d2, d3, d4, p0, p1, p2, p3, p4, by cases args; simp_all, h0, h1, h2, h3, h4⟩
end
end Go.Proofs.Ytljdhicmcmppgaa

namespace Go.Proofs.Ytljdhicmcmppgaa
open Go.RowKit Go.ChangeShapes Go.WideShapes Go.Sort

section
variable {H : Type} {enc : TypeId × Value → H} {w : World} {base b0 : Nat} {sp : Nat → Bool} {held : Bool} {r : Reach} {v : Value} {d : DataW H} {p : List MemPlace}
set_option maxRecDepth 100000 in
theorem trod_ints {f : Nat} {c0 : Value} {y : DataW H × List MemPlace} (hf : DataW.trod enc Try.prog w base sp held f 35 [c0] = some y) : ∃ n X, Ints w c0 n X ∧ n ≤ 9223372036854775807 := by
  rcases Go.Deep.open_slice1 Try.underlying35 (by kernel_rfl) hf with ⟨hcs, _⟩ | ⟨a, len, cap, m, n, V, D, Pl, hcs, _, hl, hm, hmm, _, hi⟩
  · simp only [List.cons.injEq, and_true] at hcs
    subst hcs
    exact ⟨0, fun _ => 0, ⟨_, _, rfl, Nat.le_refl _, fun h => absurd h (by omega)⟩, by omega⟩
  · simp only [List.cons.injEq, and_true] at hcs
    subst hcs
    have hlm : len ≤ m := by rw [hmm]; split <;> omega
    have key : ∀ i, ∃ q : Int, i < len → w.cell? (a.add i) = some (.int .i64 q) := fun i => by
      by_cases hil : i < len
      · obtain ⟨hc, ht⟩ := hi i (by omega)
        obtain ⟨x, e, _⟩ := DataW.trod_int Try.underlying3 ht
        simp only [List.cons.injEq, and_true] at e
        exact ⟨x, fun _ => by rw [hc, e]⟩
      · exact ⟨0, fun h => absurd h hil⟩
    obtain ⟨F, hF⟩ := Classical.axiomOfChoice key
    refine ⟨len, F, ⟨_, _, rfl, hl, fun hn => ⟨a.block, a.off, ?_, fun i hil => (cell_at (hF i hil)).1⟩⟩, by unfold maxLen at hm; omega⟩
    rw [← (cell_at (hF 0 hn)).2 rfl]
set_option maxRecDepth 100000 in
theorem open_intS (hv : Value.okWide Try.prog w r b0 35 v) (h : DataW.Trod enc Try.prog w base sp held 35 v d p) : ∃ n X, Ints w v n X ∧ n ≤ 9223372036854775807 := by
  obtain ⟨A, len, cap, rfl⟩ := okWide_slice Try.underlying35 hv
  obtain ⟨f, hf⟩ := h
  exact trod_ints (show DataW.trod enc Try.prog w base sp held f 35 [.slice A len cap] = some (d, p) from hf)
end
end Go.Proofs.Ytljdhicmcmppgaa
namespace Go.Proofs.Ytljdhicmcmppgaa
open Go.RowKit Go.ChangeShapes Go.WideShapes Go.Sort

section
variable {H : Type} {enc : TypeId × Value → H} {w : World} {base : Nat} {sp : Nat → Bool} {held : Bool} {r : _} {b0 : _} {v : Value} {d : DataW H} {p : List MemPlace}
set_option maxRecDepth 100000 in
theorem trod_bytes {f : Nat} {c0 : Value} {y : DataW H × List MemPlace} (hf : DataW.trod enc Try.prog w base sp held f 22 [c0] = some y) : ∃ n, Bytes w c0 n ∧ n ≤ 9223372036854775807 := by
  rcases Go.Deep.open_slice1 Try.underlying22 (by kernel_rfl) hf with ⟨hcs, _⟩ | ⟨a, len, cap, m, n, V, D, Pl, hcs, _, hl, hm, hmm, _, hi⟩
  · simp only [List.cons.injEq, and_true] at hcs
    subst hcs
    exact ⟨0, ⟨_, _, rfl, Nat.le_refl _, fun h => absurd h (by omega)⟩, by omega⟩
  · simp only [List.cons.injEq, and_true] at hcs
    subst hcs
    have hlm : len ≤ m := by rw [hmm]; split <;> omega
    have key : ∀ i, ∃ q : Int, i < len → w.cell? (a.add i) = some (.int .u8 q) ∧ 0 ≤ q ∧ q < 256 := fun i => by
      by_cases hil : i < len
      · obtain ⟨hc, ht⟩ := hi i (by omega)
        obtain ⟨x, e, _, hw⟩ := DataW.trod_int Try.underlying5 ht
        simp only [List.cons.injEq, and_true] at e
        exact ⟨x, fun _ => ⟨by rw [hc, e], by simp only [Lit.wf, Bool.and_eq_true, decide_eq_true_eq, show IntKind.u8.min = 0 from rfl, show IntKind.u8.max = 255 from rfl] at hw; omega⟩⟩
      · exact ⟨0, fun h => absurd h hil⟩
    obtain ⟨F, hF⟩ := Classical.axiomOfChoice key
    refine ⟨len, ⟨_, _, rfl, hl, fun hn => ⟨a.block, a.off, F, ?_, ?_, fun i hil => ⟨(cell_at (hF i hil).1).1, (hF i hil).2⟩⟩⟩, by unfold maxLen at hm; omega⟩
    · rw [← (cell_at (hF 0 hn).1).2 rfl]
    · exact lt_of_cell (cell_at (hF 0 hn).1).1
set_option maxRecDepth 100000 in
theorem open_bytes (hv : Value.okWide Try.prog w r b0 22 v) (h : DataW.Trod enc Try.prog w base sp held 22 v d p) : ∃ n, Bytes w v n ∧ n ≤ 9223372036854775807 := by
  obtain ⟨A, len, cap, rfl⟩ := okWide_slice Try.underlying22 hv
  obtain ⟨f, hf⟩ := h
  exact trod_bytes (show DataW.trod enc Try.prog w base sp held f 22 [.slice A len cap] = some (d, p) from hf)
end
set_option maxHeartbeats 1000000 in
theorem qInts_g (v v' : Value) (n : Nat) (X : Nat → Int) (w : World) (h : Ints w v n X) (h' : Ints w v' n X) (hn : n ≤ 1048576) :
    Calls Try.prog 18 #[v, v'] w (Ans w (.bool true)) := by
  obtain ⟨A, c, rfl, hnc, hrow⟩ := h
  obtain ⟨A', c', rfl, hnc', hrow'⟩ := h'
  go_enter Try.func18, Try.ntmps18
  go_wp2_with fail
  go_loopw [13] (fun i wr => ∃ k : Nat, k ≤ n ∧ i = .int .i64 k ∧ Below w.heap.size w wr) (fun i _ => n - (intOf i).toNat)
  case atStart => exact ⟨0, by omega, rfl, Below.refl _ _⟩
  case round =>
    obtain ⟨k, hk, rfl, hb⟩ := hrel
    by_cases hlt : k < n
    · obtain ⟨b, o, rfl, hr⟩ := hrow (by omega)
      obtain ⟨b', o', rfl, hr'⟩ := hrow' (by omega)
      have c1 := cell_regrown (up_keep hb (hr k hlt))
      have c3 := cell_regrown (up_keep hb (hr' k hlt))
      clear hr hr' hrow hrow'
      have hq' : (X k != X k) = false := by simp
      go_wp2_with fail
      refine wp_region_up (by kernel_rfl) (by kernel_rfl) ?_
      repeat (go_big_quiet_step (fail))
      refine wpQuiet_nil ?_
      intro w1 hb0
      obtain ⟨hc0, hf0⟩ := bcell hb0
      go_wp2_with fail
      go_roundw
      case rel => exact ⟨k + 1, by omega, by go_num, up_trans hb hb0⟩
      case measure => simp [intOf]; omega
    · have e : k = n := by omega
      subst e
      go_wp2_with fail
      go_ret
      exact Ans.bool rfl hb
end Go.Proofs.Ytljdhicmcmppgaa
namespace Go.Proofs.Ytljdhicmcmppgaa
open Go.RowKit

def moveB (x y u v c : Int) : Bool := (spotB x y && spotB u v) && inB c 1 64
theorem moveB_iff {x y u v c : Int} : moveB x y u v c = true ↔ (spotB x y = true ∧ spotB u v = true) ∧ 1 ≤ c ∧ c ≤ 64 := by simp [moveB, inB_iff]
set_option maxHeartbeats 400000 in
theorem isMove_any (x y u v c : Int) (w : World) :
    Calls Try.prog 66 #[.agg #[.int .i64 x, .int .i64 y, .int .i64 u, .int .i64 v, .int .i64 c]] w (Ans w (.bool (moveB x y u v c))) := by
  have H := Lib.hid (show moveB x y u v c = ((spotB x y && spotB u v) && inB c 1 64) from rfl)
  go_enter Try.func66, Try.ntmps66
  go_wp2_with (first
    | (go_at_call 78; refine (from0 (isSpot_any _ _ _) (by first | exact hb0 | exact up_alloc hb0 _ | exact up_drew hb0 | exact up_drewN hb0 _ | exact Below.refl _ _)).mono ?_; rintro e w1 ⟨rfl, hb0⟩; obtain ⟨hc0, hf0⟩ := bcell hb0)
    | (go_at_call 44; refine (within_any _ _ _ _).mono ?_; rintro e w1 ⟨rfl, rfl⟩))
  all_goals
    go_ret
    exact Ans.bool (by rw [H.out]; simp [*]) (by (repeat (first | with_reducible exact Below.refl _ _ | with_reducible assumption | with_reducible refine up_alloc ?_ _ | with_reducible refine up_drew ?_ | with_reducible refine up_drewN ?_ _ | (with_reducible refine up_set ?_ ?hset _; case hset => first | (simp; done) | (simp; omega) | omega) | with_reducible refine up_trans ?_ (by with_reducible assumption))))
set_option maxHeartbeats 400000 in
theorem mvGood_any (x y u v c : Int) (w : World) :
    Calls Try.prog 68 #[.agg #[.int .i64 x, .int .i64 y, .int .i64 u, .int .i64 v, .int .i64 c]] w (Ans w (.bool (moveB x y u v c))) := by
  have H := Lib.hid (show moveB x y u v c = ((spotB x y && spotB u v) && inB c 1 64) from rfl)
  go_enter Try.func68, Try.ntmps68
  go_wp2_with (first
    | (go_at_call 79; refine (from0 (stGood_any _ _ _) (by first | exact hb0 | exact up_alloc hb0 _ | exact up_drew hb0 | exact up_drewN hb0 _ | exact Below.refl _ _)).mono ?_; rintro e w1 ⟨rfl, hb0⟩; obtain ⟨hc0, hf0⟩ := bcell hb0)
    | (go_at_call 52; refine (l1In_any _ _ _ _).mono ?_; rintro e w1 ⟨rfl, rfl⟩))
  all_goals
    go_ret
    exact Ans.bool (by rw [H.out]; simp [*]) (by (repeat (first | with_reducible exact Below.refl _ _ | with_reducible assumption | with_reducible refine up_alloc ?_ _ | with_reducible refine up_drew ?_ | with_reducible refine up_drewN ?_ _ | (with_reducible refine up_set ?_ ?hset _; case hset => first | (simp; done) | (simp; omega) | omega) | with_reducible refine up_trans ?_ (by with_reducible assumption))))
def togB (x y u v c x' y' u' v' c' : Int) : Bool := (moveB x y u v c && moveB x' y' u' v' c') && (c == c')
theorem togB_iff {x y u v c x' y' u' v' c' : Int} : togB x y u v c x' y' u' v' c' = true ↔ (moveB x y u v c = true ∧ moveB x' y' u' v' c' = true) ∧ c = c' := by simp [togB]
set_option maxHeartbeats 400000 in
theorem goTogether_any (x y u v c x' y' u' v' c' : Int) (w : World) :
    Calls Try.prog 34 #[.agg #[.int .i64 x, .int .i64 y, .int .i64 u, .int .i64 v, .int .i64 c], .agg #[.int .i64 x', .int .i64 y', .int .i64 u', .int .i64 v', .int .i64 c']] w (Ans w (.bool (togB x y u v c x' y' u' v' c'))) := by
  have H := Lib.hid (show togB x y u v c x' y' u' v' c' = ((moveB x y u v c && moveB x' y' u' v' c') && (c == c')) from rfl)
  go_enter Try.func34, Try.ntmps34
  go_wp2_with (first
    | (go_at_call 66; refine (from0 (isMove_any _ _ _ _ _ _) (by first | exact hb0 | exact up_alloc hb0 _ | exact up_drew hb0 | exact up_drewN hb0 _ | exact Below.refl _ _)).mono ?_; rintro e w1 ⟨rfl, hb0⟩; obtain ⟨hc0, hf0⟩ := bcell hb0))
  all_goals
    go_ret
    exact Ans.bool (by rw [H.out]; simp [*]) (by (repeat (first | with_reducible exact Below.refl _ _ | with_reducible assumption | with_reducible refine up_alloc ?_ _ | with_reducible refine up_drew ?_ | with_reducible refine up_drewN ?_ _ | (with_reducible refine up_set ?_ ?hset _; case hset => first | (simp; done) | (simp; omega) | omega) | with_reducible refine up_trans ?_ (by with_reducible assumption))))
set_option maxHeartbeats 400000 in
theorem apGood_any (x y u v c x' y' u' v' c' : Int) (w : World) :
    Calls Try.prog 36 #[.agg #[.int .i64 x, .int .i64 y, .int .i64 u, .int .i64 v, .int .i64 c], .agg #[.int .i64 x', .int .i64 y', .int .i64 u', .int .i64 v', .int .i64 c']] w (Ans w (.bool (togB x y u v c x' y' u' v' c'))) := by
  have H := Lib.hid (show togB x y u v c x' y' u' v' c' = ((moveB x y u v c && moveB x' y' u' v' c') && (c == c')) from rfl)
  go_enter Try.func36, Try.ntmps36
  go_wp2_with (first
    | (go_at_call 68; refine (from0 (mvGood_any _ _ _ _ _ _) (by first | exact hb0 | exact up_alloc hb0 _ | exact up_drew hb0 | exact up_drewN hb0 _ | exact Below.refl _ _)).mono ?_; rintro e w1 ⟨rfl, hb0⟩; obtain ⟨hc0, hf0⟩ := bcell hb0))
  all_goals
    go_ret
    exact Ans.bool (by rw [H.out]; simp [*]) (by (repeat (first | with_reducible exact Below.refl _ _ | with_reducible assumption | with_reducible refine up_alloc ?_ _ | with_reducible refine up_drew ?_ | with_reducible refine up_drewN ?_ _ | (with_reducible refine up_set ?_ ?hset _; case hset => first | (simp; done) | (simp; omega) | omega) | with_reducible refine up_trans ?_ (by with_reducible assumption))))
end Go.Proofs.Ytljdhicmcmppgaa
namespace Go.Proofs.Ytljdhicmcmppgaa
open Go.RowKit

/-- A fraction in lowest terms. -/
def lowA (a b : Int) : Int := a / (Int.gcd a b : Int)
def lowB (a b : Int) : Int := b / (Int.gcd a b : Int)

theorem gcd_step (p q : Nat) : Nat.gcd q (p % q) = Nat.gcd p q := by rw [Nat.gcd_comm p q, Nat.gcd_rec q p, Nat.gcd_comm]
theorem gcd_abs (a b : Int) : Nat.gcd a.natAbs b.natAbs = Int.gcd a b := rfl
set_option maxHeartbeats 400000 in
theorem gcdOf_any (a b : Int) (ha : 0 ≤ a) (ha' : a ≤ 9223372036854775807) (hb : 0 ≤ b) (hb' : b ≤ 9223372036854775807) (w : World) :
    Calls Try.prog 70 #[.int .i64 a, .int .i64 b] w (Ans w (.int .i64 (Int.gcd a b : Int))) := by
  obtain ⟨p0, rfl⟩ := Int.eq_ofNat_of_zero_le ha
  obtain ⟨q0, rfl⟩ := Int.eq_ofNat_of_zero_le hb
  clear ha hb
  go_enter Try.func70, Try.ntmps70
  go_wp2
  go_loopw [0, 1] (fun r s wr => ∃ p q : Nat, p ≤ 9223372036854775807 ∧ q ≤ 9223372036854775807 ∧ Nat.gcd p q = Nat.gcd p0 q0 ∧ r = .int .i64 p ∧ s = .int .i64 q ∧ Below w.heap.size w wr) (fun _ s _ => (intOf s).toNat)
  case atStart => exact ⟨p0, q0, by omega, by omega, rfl, rfl, rfl, Below.refl _ _⟩
  case round =>
    obtain ⟨p, q, hp, hq, hg, rfl, rfl, hb⟩ := hrel
    have HG := Lib.hid hg
    clear hg
    by_cases h0 : q = 0
    · subst h0
      go_wp2
      go_ret
      exact Ans.int (by rw [← gcd_abs]; have := HG.out; rw [Nat.gcd_zero_right] at this; rw [this]; rfl) hb
    · have hlt : p % q < q := Nat.mod_lt _ (by omega)
      have h1 : 0 < q := by omega
      have h2 : ((q : Int) != 0) = true := by simp; omega
      have h3 : ((q : Int) == 0) = false := by simp; omega
      clear h0
      go_wp2
      go_quiet (fail)
      go_wp2
      go_roundw
      case rel => exact ⟨q, p % q, by omega, by omega, by rw [gcd_step]; exact HG.out, rfl, by go_num, up_drewN hb _⟩
      case measure => simp [intOf]; omega
theorem gcd_pos {a b : Int} (hb : 0 < b) : (0 : Int) < (Int.gcd a b : Int) ∧ (Int.gcd a b : Int) ≤ b := by
  have h1 : Int.gcd a b ≠ 0 := fun h => by have := (Int.gcd_eq_zero_iff.1 h).2; omega
  have h2 : (Int.gcd a b : Int) ∣ b := Int.gcd_dvd_right ..
  exact ⟨by omega, Int.le_of_dvd hb h2⟩
set_option maxHeartbeats 400000 in
theorem lowestTerms_any (a b : Int) (ha : 0 ≤ a) (ha' : a ≤ 9223372036854775807) (hb : 0 < b) (hb' : b ≤ 9223372036854775807) (w : World) :
    Calls Try.prog 39 #[.int .i64 a, .int .i64 b] w (Ans w (.tuple #[.int .i64 (lowA a b), .int .i64 (lowB a b)])) := by
  obtain ⟨h1, h2⟩ := gcd_pos (a := a) hb
  have H := Lib.hid (show lowA a b = a / (Int.gcd a b : Int) ∧ lowB a b = b / (Int.gcd a b : Int) from ⟨rfl, rfl⟩)
  have hd : ((Int.gcd a b : Int) == 0) = false := by simp only [beq_eq_false_iff_ne, ne_eq]; omega
  go_enter Try.func39, Try.ntmps39
  go_wp2_with (first | (go_at_call 70; refine (from0 (gcdOf_any _ _ (by omega) (by omega) (by omega) (by omega) _) (by first | exact hb0 | exact up_alloc hb0 _ | exact up_drew hb0 | exact up_drewN hb0 _ | exact Below.refl _ _)).mono ?_; rintro e w1 ⟨rfl, hb0⟩; obtain ⟨hc0, hf0⟩ := bcell hb0))
  go_quiet (fail)
  go_wp2
  go_ret2
  exact Ans.int2 H.out.1.symm H.out.2.symm (by (repeat (first | with_reducible exact Below.refl _ _ | with_reducible assumption | with_reducible refine up_alloc ?_ _ | with_reducible refine up_drew ?_ | with_reducible refine up_drewN ?_ _ | (with_reducible refine up_set ?_ ?hset _; case hset => first | (simp; done) | (simp; omega) | omega) | with_reducible refine up_trans ?_ (by with_reducible assumption))))
set_option maxHeartbeats 400000 in
theorem mvPart_any (a b : Int) (ha : 0 ≤ a) (ha' : a ≤ 9223372036854775807) (hb : 0 < b) (hb' : b ≤ 9223372036854775807) (w : World) :
    Calls Try.prog 41 #[.int .i64 a, .int .i64 b] w (Ans w (.tuple #[.int .i64 (lowA a b), .int .i64 (lowB a b)])) := by
  obtain ⟨p0, rfl⟩ := Int.eq_ofNat_of_zero_le ha
  obtain ⟨q0, rfl⟩ := Int.eq_ofNat_of_zero_le (show 0 ≤ b by omega)
  obtain ⟨g1, g2⟩ := gcd_pos (a := p0) hb
  obtain ⟨g, hgd⟩ : ∃ g : Nat, g = Nat.gcd p0 q0 := ⟨_, rfl⟩
  rw [show (Int.gcd p0 q0 : Int) = g by rw [hgd]; rfl] at g1 g2
  have H := Lib.hid (show lowA p0 q0 = (p0 : Int) / g ∧ lowB p0 q0 = (q0 : Int) / g from by rw [hgd]; exact ⟨rfl, rfl⟩)
  have hd : ((g : Int) == 0) = false := by simp only [beq_eq_false_iff_ne, ne_eq]; omega
  have G := Lib.hid hgd
  have e1 : 0 ≤ (p0 : Int) / g := Int.ediv_nonneg (by omega) (by omega)
  have e2 : (p0 : Int) / g ≤ p0 := Int.ediv_le_self _ (by omega)
  have e3 : 0 ≤ (q0 : Int) / g := Int.ediv_nonneg (by omega) (by omega)
  have e4 : (q0 : Int) / g ≤ q0 := Int.ediv_le_self _ (by omega)
  clear ha hgd
  go_enter Try.func41, Try.ntmps41
  go_wp2_with (first | (go_at_call 71; refine (l1Abs_any _ (by omega) (by omega) _).mono ?_; rintro e w1 ⟨rfl, rfl⟩; rw [show max (p0 : Int) (-p0) = p0 by omega]))
  go_loopw [6, 7] (fun r s wr => ∃ p q : Nat, p ≤ 9223372036854775807 ∧ q ≤ 9223372036854775807 ∧ Nat.gcd p q = g ∧ r = .int .i64 p ∧ s = .int .i64 q ∧ Below w.heap.size w wr) (fun _ s _ => (intOf s).toNat)
  case atStart => exact ⟨p0, q0, by omega, by omega, G.out.symm, rfl, rfl, Below.refl _ _⟩
  case round =>
    obtain ⟨p, q, hp, hq, hg, rfl, rfl, hb⟩ := hrel
    by_cases h0 : q = 0
    · subst h0
      rw [Nat.gcd_zero_right] at hg
      subst hg
      go_wp2
      go_quiet (fail)
      go_wp2
      go_ret2
      exact Ans.int2 H.out.1.symm H.out.2.symm (up_drewN hb _)
    · have HG := Lib.hid hg
      clear hg
      have hlt : p % q < q := Nat.mod_lt _ (by omega)
      have h1 : 0 < q := by omega
      have h2 : ((q : Int) != 0) = true := by simp; omega
      have h3 : ((q : Int) == 0) = false := by simp; omega
      clear h0
      go_wp2
      go_roundw
      case rel => exact ⟨q, p % q, by omega, by omega, by rw [gcd_step]; exact HG.out, by go_num, by go_num, hb⟩
      case measure => simp [intOf]; omega
end Go.Proofs.Ytljdhicmcmppgaa
