/-
  Slices of slices of ints: words, the laws' helpers on them.
-/
import Derived.Test.YtamoanhjajnahaaRows
import Derived.Test.YtamoanhjajnahaaBase
import Derived.Test.YtamoanhjajnahaaSlice
import Derived.Test.YtamoanhjajnahaaLawS
import Derived.Test.YtamoanhjajnahaaMark
import Derived.Test.YtamoanhjajnahaaInts
import Derived.Test.YtamoanhjajnahaaIntsL
import Derived.Test.YtamoanhjajnahaaTurned
import Derived.Test.YtamoanhjajnahaaTrans
namespace Go.Proofs.Ytamoanhjajnahaa
open Go.RowKit

/-- The n cells from ⟨b, o⟩ on hold these values. -/
def RowV (w : World) (b o n : Nat) (V : Nat → Value) : Prop := ∀ i, i < n → w.cell? ⟨b, o + i, none⟩ = some (V i)
section
variable {w w' : World} {b o n : Nat} {V V' : Nat → Value}
theorem RowV.lt (h : RowV w b o n V) (hn : 0 < n) : b < w.heap.size := lt_of_cell (h 0 hn)
theorem RowV.up (h : RowV w b o n V) (hb : Below w.heap.size w w') : RowV w' b o n V := fun i hi => up_keep hb (h i hi)
theorem RowV.turn {lo hi : Nat} (h : RowV w b o n V) (ht : Turned lo hi w w') (hb : b < lo ∨ hi ≤ b) : RowV w' b o n V := fun i hi => ht.cell (h i hi) hb
theorem RowV.only (h : RowV w b o n V) {row : Option Nat} (hg : w.grownBy w' row) (hr : row ≠ some b) : RowV w' b o n V := fun i hi =>
  (World.cell?_of_block (a := ⟨b, o + i, none⟩) (hg.block b (lt_of_cell (h i hi)) (Ne.symm hr))).trans (h i hi)
end
/-- The slice value v reads as n rows of ints: the i-th has R i numbers, F i. -/
def IRows (w : World) (v : Value) (n : Nat) (R : Nat → Nat) (F : Nat → Nat → Int) : Prop := ∃ A c V, v = .slice A n c ∧ n ≤ c ∧ (0 < n → ∃ b o, A = some ⟨b, o, none⟩ ∧ RowV w b o n V) ∧ ∀ i, i < n → Ints w (V i) (R i) (F i)
theorem IRows.up {w w' : World} {v : Value} {n : Nat} {R : Nat → Nat} {F : Nat → Nat → Int} (h : IRows w v n R F) (hb : Below w.heap.size w w') : IRows w' v n R F := by
  obtain ⟨A, c, V, hv, hc, hr, hf⟩ := h
  exact ⟨A, c, V, hv, hc, fun hn => by obtain ⟨b, o, ha, h⟩ := hr hn; exact ⟨b, o, ha, h.up hb⟩, fun i hi => (hf i hi).up hb⟩
theorem IRows.shape {w : World} {v : Value} {n : Nat} {R : Nat → Nat} {F : Nat → Nat → Int} (h : IRows w v n R F) : ∃ A c, v = .slice A n c ∧ n ≤ c := by
  obtain ⟨A, c, V, hv, hc, _⟩ := h
  exact ⟨A, c, hv, hc⟩
/-- .. in memory of its own, each row in a block of its own. -/
def OwnRw (base : Nat) (w : World) (v : Value) (n : Nat) (R : Nat → Nat) (F : Nat → Nat → Int) : Prop := ∃ A c V, v = .slice A n c ∧ n ≤ c ∧
  (0 < n → ∃ b o, A = some ⟨b, o, none⟩ ∧ base ≤ b ∧ RowV w b o n V ∧ ∀ i, i < n → 0 < R i → (V i).ownBlock ≠ some b) ∧ (∀ i, i < n → OwnI base w (V i) (R i) (F i)) ∧
  ∀ i j, i < n → j < n → i ≠ j → 0 < R i → 0 < R j → (V i).ownBlock ≠ (V j).ownBlock
section
variable {base lo hi : Nat} {w w' : World} {v : Value} {n : Nat} {R : Nat → Nat} {F F' : Nat → Nat → Int}
theorem OwnRw.rows (h : OwnRw base w v n R F) : IRows w v n R F := by
  obtain ⟨A, c, V, hv, hc, hr, hf, _⟩ := h
  exact ⟨A, c, V, hv, hc, fun hn => by obtain ⟨b, o, ha, _, h, _⟩ := hr hn; exact ⟨b, o, ha, h⟩, fun i hi => (hf i hi).ints⟩
theorem OwnRw.up (h : OwnRw base w v n R F) (hb : Below w.heap.size w w') : OwnRw base w' v n R F := by
  obtain ⟨A, c, V, hv, hc, hr, hf, hd⟩ := h
  exact ⟨A, c, V, hv, hc, fun hn => by obtain ⟨b, o, ha, h1, h, h2⟩ := hr hn; exact ⟨b, o, ha, h1, h.up hb, h2⟩, fun i hi => (hf i hi).up hb, hd⟩
theorem OwnRw.more (h : OwnRw base w v n R F) {base' : Nat} (hb : base' ≤ base) : OwnRw base' w v n R F := by
  obtain ⟨A, c, V, hv, hc, hr, hf, hd⟩ := h
  exact ⟨A, c, V, hv, hc, fun hn => by obtain ⟨b, o, ha, h1, h, h2⟩ := hr hn; exact ⟨b, o, ha, by omega, h, h2⟩, fun i hi => (hf i hi).more hb, hd⟩
theorem OwnRw.turn (h : OwnRw base w v n R F) (ht : Turned lo hi w w') (hb : hi ≤ base) : OwnRw base w' v n R F := by
  obtain ⟨A, c, V, hv, hc, hr, hf, hd⟩ := h
  exact ⟨A, c, V, hv, hc, fun hn => by obtain ⟨b, o, ha, h1, h, h2⟩ := hr hn; exact ⟨b, o, ha, h1, h.turn ht (by omega), h2⟩, fun i hi => (hf i hi).turn ht hb, hd⟩
theorem OwnRw.cong (h : OwnRw base w v n R F) (hx : ∀ i, i < n → ∀ j, j < R i → F i j = F' i j) : OwnRw base w v n R F' := by
  obtain ⟨A, c, V, hv, hc, hr, hf, hd⟩ := h
  exact ⟨A, c, V, hv, hc, hr, fun i hi => (hf i hi).cong (hx i hi), hd⟩
theorem OwnRw.nil : OwnRw base w (.slice none 0 0) 0 R F := ⟨_, _, fun _ => .slice none 0 0, rfl, Nat.le_refl _, fun h => absurd h (by omega), fun i hi => absurd hi (by omega), fun i j hi => absurd hi (by omega)⟩
end
theorem IRows.old {wb w w' : World} {u : Value} {m : Nat} {R : Nat → Nat} {F F' : Nat → Nat → Int} (h0 : IRows wb u m R F) (h : IRows w u m R F') (hbw : Below wb.heap.size wb w) (hB : Below wb.heap.size w w') : IRows w' u m R F' := by
  obtain ⟨A, c, V, rfl, hc, hr, hf⟩ := h
  obtain ⟨A', c', V', he, _, hr', hf'⟩ := h0
  injection he with e1 e2 e3
  subst e1
  have key : ∀ i, i < m → V i = V' i := fun i hi => by
    obtain ⟨b, o, hA, h1⟩ := hr (by omega)
    obtain ⟨b', o', hA', h2⟩ := hr' (by omega)
    rw [hA] at hA'
    injection hA' with e4
    injection e4 with e5 e6
    subst e5 e6
    have k1 := h1 i hi
    have k2 := h2 i hi
    rw [hbw.cell (p := ⟨b, o + i, none⟩) (lt_of_cell k2), k2] at k1
    injection k1 with k1
    exact k1.symm
  refine ⟨A, c, V, rfl, hc, fun hm => ?_, fun i hi => ?_⟩
  · obtain ⟨b, o, rfl, h1⟩ := hr hm
    obtain ⟨b', o', hA', h2⟩ := hr' hm
    injection hA' with e4
    injection e4 with e5 e6
    subst e5 e6
    refine ⟨b, o, rfl, fun i hi => ?_⟩
    rw [hB.cell (p := ⟨b, o + i, none⟩) (h2.lt hm)]
    exact h1 i hi
  · have := hf' i hi
    rw [← key i hi] at this
    exact Ints.old this (hf i hi) hB
/-- Returned: n rows in new memory (and a Bool); nothing that was there has turned. -/
def AnsRw (w : World) (n : Nat) (R : Nat → Nat) (F : Nat → Nat → Int) (e : Ending) (w' : World) : Prop := ∃ v, e = .returned v ∧ OwnRw w.heap.size w' v n R F ∧ Below w.heap.size w w'
def AnsRwB (w : World) (n : Nat) (R : Nat → Nat) (F : Nat → Nat → Int) (q : Bool) (e : Ending) (w' : World) : Prop := ∃ v, e = .returned (.tuple #[v, .bool q]) ∧ OwnRw w.heap.size w' v n R F ∧ Below w.heap.size w w'
theorem AnsRwB.nil {w w' : World} {R : Nat → Nat} {F : Nat → Nat → Int} (hb : Below w.heap.size w w') : AnsRwB w 0 R F false (.returned (.tuple #[.slice none 0 0, .bool false])) w' := ⟨_, rfl, OwnRw.nil, hb⟩
set_option maxRecDepth 100000 in
set_option maxHeartbeats 2000000 in
theorem eqIntSS_g (v v' : Value) (n : Nat) (R : Nat → Nat) (F : Nat → Nat → Int) (w : World) (h : IRows w v n R F) (h' : IRows w v' n R F) (hn : n ≤ 1048576) (hR : ∀ i, i < n → R i ≤ 1048576) :
    Calls Try.prog 19 #[v, v'] w (Ans w (.bool true)) := by
  obtain ⟨A, c, V, rfl, hnc, hrow, hf⟩ := h
  obtain ⟨A', c', V', rfl, hnc', hrow', hf'⟩ := h'
  have HF := Lib.hid hf
  have HF' := Lib.hid hf'
  have HRR := Lib.hid hR
  clear hf hf' hR
  go_enter Try.func19, Try.ntmps19
  go_wp2_with fail
  go_loopw [5] (fun i wr => ∃ k : Nat, k ≤ n ∧ i = .int .i64 k ∧ Below w.heap.size w wr) (fun i _ => n - (intOf i).toNat)
  case atStart => exact ⟨0, by omega, rfl, Below.refl _ _⟩
  case round =>
    obtain ⟨k, hk, rfl, hb⟩ := hrel
    by_cases hlt : k < n
    · obtain ⟨b, o, rfl, hr⟩ := hrow (by omega)
      obtain ⟨b', o', rfl, hr'⟩ := hrow' (by omega)
      have HC := Lib.hid (fun W (hW : Below wr.heap.size wr W) => eqIntS_g (V k) (V' k) (R k) (F k) W (((HF.out k hlt).up hb).up hW) (((HF'.out k hlt).up hb).up hW) (HRR.out k hlt))
      obtain ⟨a1, q1, e1, _⟩ := (HF.out k hlt).shape
      obtain ⟨a2, q2, e2, _⟩ := (HF'.out k hlt).shape
      have c0 := cell_regrown (up_keep hb (hr k hlt))
      have c1 := cell_regrown (up_keep hb (hr' k hlt))
      rw [e1] at c0 HC
      rw [e2] at c1 HC
      clear hr hr' hrow hrow' e1 e2
      go_wp2_with fail
      refine wp_region_up (by kernel_rfl) (by kernel_rfl) ?_
      repeat (go_big_quiet_step (exact up_of (fun W hW => HC.out W hW) _ _))
      refine wpQuiet_nil ?_
      intro w1 hb0
      obtain ⟨hc0, hf0⟩ := bcell hb0
      go_wp2_with fail
      go_roundw
      case rel => exact ⟨k + 1, by omega, by go_num, up_trans hb hb0⟩
      case measure => simp [intOf]; omega
    · have e : k = n := by omega
      subst e
      go_wp2_with fail
      go_ret
      exact Ans.bool rfl hb
/-- How many numbers the first k rows have. -/
def sumR (R : Nat → Nat) : Nat → Nat
  | 0 => 0
  | k + 1 => sumR R k + R k
def markF (R : Nat → Nat) (k0 : Int) (i j : Nat) : Int := k0 + sumR R i + j
theorem sumR_le (R : Nat → Nat) {i k : Nat} (h : i ≤ k) : sumR R i ≤ sumR R k := by
  induction k with
  | zero => rw [show i = 0 by omega]; exact Nat.le_refl _
  | succ k ih =>
    rcases Nat.lt_or_ge i (k + 1) with h' | h'
    · have := ih (by omega); simp only [sumR]; omega
    · rw [show i = k + 1 by omega]; exact Nat.le_refl _
def MarkAnsRw (base : Nat) (v : Value) (n : Nat) (R : Nat → Nat) (k0 : Int) (w : World) (e : Ending) (w' : World) : Prop :=
  e = .returned (.int .i64 (k0 + sumR R n)) ∧ OwnRw base w' v n R (markF R k0) ∧ ∀ wx F', IRows wx v n R F' → Below wx.heap.size wx w → Turned base wx.heap.size w w'
set_option maxRecDepth 100000 in
set_option maxHeartbeats 2000000 in
theorem markIntSS_g (base : Nat) (v : Value) (n : Nat) (R : Nat → Nat) (F : Nat → Nat → Int) (k0 : Int) (w : World) (h : OwnRw base w v n R F) (hn : n ≤ 1048576) (hk0 : 0 ≤ k0) (hk1 : k0 + sumR R n ≤ 16777216) (hR : ∀ i, i < n → R i ≤ 1048576) :
    Calls Try.prog 28 #[v, .int .i64 k0] w (MarkAnsRw base v n R k0 w) := by
  obtain ⟨A, c, V, rfl, hnc, hrow, hf, hd⟩ := h
  have HF := Lib.hid hf
  have HD := Lib.hid hd
  have HRR := Lib.hid hR
  have HRow := Lib.hid hrow
  clear hf hd hR hrow
  go_enter Try.func28, Try.ntmps28
  go_wp2_with fail
  go_loopw [1, 5] (fun q i wr => ∃ k : Nat, k ≤ n ∧ i = .int .i64 k ∧ q = .int .i64 (k0 + (sumR R k : Nat)) ∧ w.heap.size ≤ wr.heap.size ∧ (0 < n → ∃ b o, A = some ⟨b, o, none⟩ ∧ RowV wr b o n V) ∧
      (∀ i, i < k → OwnI base wr (V i) (R i) (markF R k0 i)) ∧ (∀ i, i < n → k ≤ i → OwnI base wr (V i) (R i) (F i)) ∧
      ∀ wx, (∀ i, i < n → ∃ X', Ints wx (V i) (R i) X') → Turned base wx.heap.size w wr) (fun _ i _ => n - (intOf i).toNat)
  case atStart =>
    exact ⟨0, by omega, rfl, congrArg (Value.int .i64) (by simp [sumR]), Nat.le_refl _, fun hn => by obtain ⟨b, o, h1, _, h2, _⟩ := HRow.out hn; exact ⟨b, o, h1, h2⟩, fun i hi => absurd hi (by omega), fun i hi _ => HF.out i hi, fun wx _ => Turned.refl _ _ _⟩
  case round =>
    obtain ⟨k, hk, rfl, rfl, hsz, hV, hm, hu, hT⟩ := hrel
    have hle := sumR_le R hk
    have HM := Lib.hid hm
    have HU := Lib.hid hu
    have HT := Lib.hid hT
    have HV := Lib.hid hV
    clear hm hu hT hV
    by_cases hlt : k < n
    · obtain ⟨b, o, rfl, hr⟩ := HV.out (by omega)
      obtain ⟨b', o', e', hb', _, hne⟩ := HRow.out (by omega)
      injection e' with e'
      injection e' with e1 e2
      subst e1 e2
      have hle2 := sumR_le R (show k + 1 ≤ n by omega)
      have HS := Lib.hid (show sumR R (k + 1) = sumR R k + R k from rfl)
      rw [HS.out] at hle2
      have c0 := hr k hlt
      obtain ⟨a1, q1, e1, _⟩ := (HU.out k hlt (Nat.le_refl _)).shape
      rw [e1] at c0
      have HC := Lib.hid (markIntS_g base (V k) (R k) (F k) (k0 + (sumR R k : Nat)) wr (HU.out k hlt (Nat.le_refl _)) (HRR.out k hlt) (by omega) (by omega))
      rw [e1] at HC
      have HR := Lib.hid hr
      have HNE := Lib.hid hne
      clear hr hne
      go_wp2_with fail
      refine HC.out.mono ?_
      rintro e w2 ⟨rfl, hg, ho⟩
      have HO := Lib.hid ho
      have HG := Lib.hid hg
      have hs2 := hg.size
      clear ho hg
      go_wp2_with fail
      go_roundw
      case rel =>
        have e1' : (.slice a1 (R k) q1 : Value) = V k := e1.symm
        have hg := HG.out
        have ho := HO.out
        rw [e1'] at hg ho
        have hrow : (if R k = 0 then none else (V k).ownBlock) ≠ some b := by
          split
          · simp
          · exact HNE.out k hlt (by omega)
        have hother : ∀ i, i < n → i ≠ k → 0 < R i → (if R k = 0 then none else (V k).ownBlock) ≠ (V i).ownBlock := fun i hi hik hRi => by
          split
          · intro e
            obtain ⟨aa, qq, he, _, hh⟩ := (HF.out i hi)
            obtain ⟨bb, oo, rfl, _⟩ := hh hRi
            rw [he] at e
            simp [Value.ownBlock] at e
          · exact HD.out k i hlt hi (Ne.symm hik) (by omega) hRi
        refine ⟨k + 1, by omega, by go_num, congrArg (Value.int .i64) (by rw [HS.out]; omega), by omega, fun _ => ⟨b, o, rfl, HR.out.only hg hrow⟩, fun i hi => ?_, fun i hi hki => ?_, fun wx hwx => ?_⟩
        · by_cases e : i = k
          · subst e
            exact ho.cong (fun j _ => by unfold markF; omega)
          · exact (HM.out i (by omega)).only hg (hother i (by omega) e)
        · exact (HU.out i hi (by omega)).only hg (hother i hi (by omega))
        · obtain ⟨X', hX⟩ := hwx k hlt
          exact (HT.out wx hwx).trans (markI_turned (HU.out k hlt (Nat.le_refl _)) hX hg)
      case measure => simp [intOf]; omega
    · have e : k = n := by omega
      subst e
      go_wp2_with fail
      go_ret
      refine ⟨rfl, ⟨A, c, V, rfl, hnc, fun hn0 => ?_, fun i hi => HM.out i hi, HD.out⟩, fun wx F' hx hbx => ?_⟩
      · obtain ⟨b, o, rfl, hr⟩ := HV.out hn0
        obtain ⟨b', o', e', hb', _, hne⟩ := HRow.out hn0
        injection e' with e'
        injection e' with e1 e2
        subst e1 e2
        exact ⟨b, o, rfl, hb', hr, hne⟩
      · refine HT.out wx (fun i hi => ?_)
        obtain ⟨A', c', V', he, _, hr', hf'⟩ := hx
        injection he with e1 e2 e3
        subst e1
        obtain ⟨b, o, hA, _, h1, _⟩ := HRow.out (by omega)
        obtain ⟨b', o', hA', h2⟩ := hr' (by omega)
        rw [hA] at hA'
        injection hA' with e4
        injection e4 with e5 e6
        subst e5 e6
        have k1 := h1 i hi
        have k2 := h2 i hi
        rw [hbx.cell (p := ⟨b, o + i, none⟩) (lt_of_cell k2), k2] at k1
        injection k1 with k1
        rw [← k1]
        exact ⟨_, hf' i hi⟩
end Go.Proofs.Ytamoanhjajnahaa
