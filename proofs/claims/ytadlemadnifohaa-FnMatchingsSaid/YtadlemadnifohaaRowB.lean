/-
  Rows of numbers appended to a list; lists copied; the squares of all ways.
-/
import Derived.Test.YtadlemadnifohaaRows
import Derived.Test.YtadlemadnifohaaBase
import Derived.Test.YtadlemadnifohaaSpot
import Derived.Test.YtadlemadnifohaaSlice
import Derived.Test.YtadlemadnifohaaLawS
import Derived.Test.YtadlemadnifohaaMark
import Derived.Test.YtadlemadnifohaaAppend
import Derived.Test.YtadlemadnifohaaAppendE
import Derived.Test.YtadlemadnifohaaInts
import Derived.Test.YtadlemadnifohaaIntsL
import Derived.Test.YtadlemadnifohaaCopyI
import Derived.Test.YtadlemadnifohaaTurned
import Derived.Test.YtadlemadnifohaaTrans
import Derived.Test.YtadlemadnifohaaRowsI
import Derived.Test.YtadlemadnifohaaCosts
import Derived.Maps.AppendAt
namespace Go.Proofs.Ytadlemadnifohaa
open Go.RowKit

def cellsV (L : Nat → Value) (n : Nat) : List Value := (List.range n).map L
theorem cellsV_len (L : Nat → Value) (n : Nat) : (cellsV L n).length = n := by simp [cellsV]
theorem cellsV_get (L : Nat → Value) (n i : Nat) (h : i < n) : (cellsV L n)[i]? = some (L i) := by simp [cellsV, h]
theorem cellsV_succ (L : Nat → Value) (n : Nat) : cellsV L (n + 1) = cellsV L n ++ [L n] := by simp [cellsV, List.range_succ]
theorem cellsV_cong {L L' : Nat → Value} (n : Nat) (h : ∀ i, i < n → L i = L' i) : cellsV L n = cellsV L' n := by
  unfold cellsV
  exact List.map_congr_left (fun i hi => h i (by simpa using hi))
/-- n rows in memory of their own, each in a block of its own, in a list that may be appended to. -/
def OwnB (base : Nat) (w : World) (q : Value) (n : Nat) (R : Nat → Nat) (F : Nat → Nat → Int) : Prop := ∃ L, w.ownsRow base 25 1 q n (cellsV L n) ∧ (∀ i, i < n → OwnI base w (L i) (R i) (F i)) ∧
  (∀ i, i < n → 0 < R i → (L i).ownBlock ≠ q.ownBlock) ∧ ∀ i j, i < n → j < n → i ≠ j → 0 < R i → 0 < R j → (L i).ownBlock ≠ (L j).ownBlock
section
variable {base : Nat} {w w' : World} {q : Value} {n : Nat} {R : Nat → Nat} {F : Nat → Nat → Int}
theorem OwnB.up (h : OwnB base w q n R F) (hb : Below w.heap.size w w') : OwnB base w' q n R F := by
  obtain ⟨L, h1, h2, h3, h4⟩ := h
  exact ⟨L, World.ownsRow.kept (row := none) h1 ⟨hb.os, hb.tape, hb.output, hb.size, fun k hk _ => hb.block k hk⟩ (by cases q.ownBlock <;> simp), fun i hi => (h2 i hi).up hb, h3, h4⟩
theorem OwnB.nil (base : Nat) (w : World) (R : Nat → Nat) (F : Nat → Nat → Int) : OwnB base w (.slice none 0 0) 0 R F := ⟨fun _ => .slice none 0 0, World.ownsRow_nil _ _ _ _, fun i hi => absurd hi (by omega), fun i hi => absurd hi (by omega), fun i j hi => absurd hi (by omega)⟩
theorem OwnB.empty (hb : base ≤ w.heap.size) (R : Nat → Nat) (F : Nat → Nat → Int) : OwnB base (w.alloc (.cells #[] 25)) (.slice (some ⟨w.heap.size, 0, none⟩) 0 0) 0 R F :=
  ⟨fun _ => .slice none 0 0, World.ownsRow_made w #[] 0 hb (by unfold maxLen; omega) rfl, fun i hi => absurd hi (by omega), fun i hi => absurd hi (by omega), fun i j hi => absurd hi (by omega)⟩
theorem OwnB.rw (h : OwnB base w q n R F) : OwnRw base w q n R F := by
  obtain ⟨L, h1, h2, h3, h4⟩ := h
  have h10 := h1
  rcases h1.2 with ⟨rfl, h0⟩ | ⟨g, cap, cur, rfl, hb, hg, hnc, _⟩
  · subst h0
    exact OwnRw.nil
  · refine ⟨_, _, L, rfl, hnc, fun hn => ⟨g, 0, rfl, hb, fun i hi => ?_, fun i hi hR e => h3 i hi hR (by rw [e]; rfl)⟩, h2, h4⟩
    rw [Nat.zero_add]
    have := World.ownsRow.cellAt h10 i (by omega)
    rw [this]
    exact cellsV_get L n i hi
end
theorem info_rowB : (Try.prog.info? 25).map (fun i => (i.zero, i.size, i.bytes)) = some (some (.slice none 0 0), 1, 24) := by kernel_rfl
set_option maxRecDepth 100000 in
/-- 'append(out, row)', the row made since the world wa. -/
theorem run_app_row {wa w : World} (ty : TypeId) (base : Nat) (q : Value) (n : Nat) (R : Nat → Nat) (F : Nat → Nat → Int) {g : Nat} {rv : Value} (hc0 : w.cell? ⟨g, 0, none⟩ = some rv)
    (hown : OwnB base wa q n R F) (hbase : base ≤ wa.heap.size) (hb : Below wa.heap.size wa w) (hrv : OwnI wa.heap.size w rv (R n) (F n)) (hn : n ≤ 1048576) :
    ∃ v' w', (Builtin.append_ #[23, 23] ty #[q, .slice (some ⟨g, 0, none⟩) 1 1]).run Try.prog w = .ok v' w' ∧ OwnB base w' v' (n + 1) R F ∧ Below base w w' := by
  obtain ⟨L, h1, h2, h3, h4⟩ := hown
  have hqlt : ∀ k, q.ownBlock = some k → base ≤ k ∧ k < wa.heap.size := fun k hk => World.ownsRow.lt h1 k hk
  have h1w : w.ownsRow base 25 1 q n (cellsV L n) := World.ownsRow.kept (row := none) h1 ⟨hb.os, hb.tape, hb.output, hb.size, fun k hk _ => hb.block k hk⟩ (by cases q.ownBlock <;> simp)
  have hs := hb.size
  obtain ⟨A1, c1, e1, _⟩ := hrv.shape
  obtain ⟨i0, hi0, hz0, hz1, hz2⟩ := info_parts info_rowB
  obtain ⟨v', w', hr, k1, k2, _, k5⟩ := run_append_own_at (P := Try.prog) w base 23 ty 25 i0 _ 1 24 Try.underlying23 hi0 hz0 hz1 hz2 rfl (by omega) q n _ h1w ⟨g, 0, none⟩ 1 1
    [rv] rfl (by
      intro j u hu
      rw [add_none, Nat.zero_add]
      match j, hu with
      | 0, hu => simp only [List.getElem?_cons_zero, Option.some.injEq] at hu; subst hu; exact hc0) (by
      intro u hu
      simp only [List.mem_cons, List.not_mem_nil, or_false] at hu
      rcases hu with rfl; rw [e1]; rfl) (by unfold maxLen; omega) (by omega) (by omega)
  have hsz := k2.size
  have rvb : 0 < R n → ∀ k, rv.ownBlock = some k → wa.heap.size ≤ k ∧ k < w.heap.size := fun hR k hk => hrv.block_lt hR hk
  have rvs : 0 < R n → ∃ k, rv.ownBlock = some k := fun hR => by
    obtain ⟨A', c', e', _, hh⟩ := hrv
    obtain ⟨b', o', rfl, _⟩ := hh hR
    exact ⟨b', by rw [e']; rfl⟩
  have Ls : ∀ i, i < n → 0 < R i → ∃ k, (L i).ownBlock = some k ∧ k < wa.heap.size := fun i hi hR => by
    obtain ⟨A', c', e', _, hh⟩ := h2 i hi
    obtain ⟨b', o', rfl, _, _, hrr⟩ := hh hR
    exact ⟨b', by rw [e']; rfl, hrr.lt hR⟩
  refine ⟨v', w', hr, ⟨fun i => if i = n then rv else L i, ?_, fun i hi => ?_, fun i hi hR => ?_, fun i j hi hj hij h5 h6 => ?_⟩, below_grown k2 (by omega) (fun k hk => (hqlt k hk).1)⟩
  · rw [cellsV_succ, cellsV_cong n (L' := L) (fun i hi => if_neg (by omega)), if_pos rfl]
    exact k1
  · by_cases e : i = n
    · subst e
      simp only [if_true]
      refine (hrv.only k2 (fun hR e => ?_)).more hbase
      obtain ⟨k, hk⟩ := rvs hR
      rw [hk] at e
      have := hqlt k e
      have := rvb hR k hk
      omega
    · simp only [if_neg e]
      exact ((h2 i (by omega)).up hb).only k2 (fun hR e' => h3 i (by omega) hR e'.symm)
  · by_cases e : i = n
    · subst e
      simp only [if_true]
      obtain ⟨k, hk⟩ := rvs hR
      have := rvb hR k hk
      rw [hk]
      rcases k5 with e | e
      · rw [e]
        intro e'
        have := hqlt k e'.symm
        omega
      · rw [e]
        simp
        omega
    · simp only [if_neg e]
      obtain ⟨k, hk, hkl⟩ := Ls i (by omega) hR
      rcases k5 with e | e
      · rw [e]; exact h3 i (by omega) hR
      · rw [e, hk]
        simp
        omega
  · by_cases e : i = n
    · subst e
      simp only [if_true, if_neg (Ne.symm hij)]
      obtain ⟨k, hk⟩ := rvs h5
      obtain ⟨k', hk', hkl⟩ := Ls j (by omega) h6
      have := rvb h5 k hk
      rw [hk, hk']
      simp
      omega
    · by_cases e2 : j = n
      · subst e2
        simp only [if_true, if_neg hij]
        obtain ⟨k, hk⟩ := rvs h6
        obtain ⟨k', hk', hkl⟩ := Ls i (by omega) h5
        have := rvb h6 k hk
        rw [hk, hk']
        simp
        omega
      · simp only [if_neg e, if_neg e2]
        exact h4 i j (by omega) (by omega) hij h5 h6
theorem wpList_app_row {ops : Array Oper} {rest : List Oper} {o : Oper} {a : Act} {Q : Exit → Act → World → Prop} {wa w : World} (hgd : o.guard = none) (s x : Operand)
    (ho : o.op = .call { callee := .builtin .append, args := #[s, x], argTypes := #[23, 23] })
    (base : Nat) (q : Value) (n : Nat) (R : Nat → Nat) (F : Nat → Nat → Int) {g : Nat} {rv : Value} (hs : a.eval s = q) (hx : a.eval x = .slice (some ⟨g, 0, none⟩) 1 1) (hc0 : w.cell? ⟨g, 0, none⟩ = some rv)
    (hown : OwnB base wa q n R F) (hbase : base ≤ wa.heap.size) (hb : Below wa.heap.size wa w) (hrv : OwnI wa.heap.size w rv (R n) (F n)) (hn : n ≤ 1048576)
    (h : ∀ v' w', OwnB base w' v' (n + 1) R F → Below base w w' → wpList Try.prog ops Q rest (a.put o.dst v') w') : wpList Try.prog ops Q (o :: rest) a w := by
  obtain ⟨v', w', hr, h1, h2⟩ := run_app_row o.type base q n R F hc0 hown hbase hb hrv hn
  refine wpList_plain hgd fun _ hK => ?_
  unfold Oper.wp execOp
  simp only [ho, resolve, invoke, builtin, Sem.run_bind, Sem.run_pure, Result.andThen_ok, List.map_toArray, List.map_cons, List.map_nil, hs, hx, hr]
  exact hK _ _ (h v' w' h1 h2)
set_option maxRecDepth 100000 in
set_option maxHeartbeats 1000000 in
theorem copyLists_g (v : Value) (n : Nat) (R : Nat → Nat) (F : Nat → Nat → Int) (w : World) (h : IRows w v n R F) (hn : n ≤ 1048576) (hR : ∀ i, i < n → R i ≤ 1048576) :
    Calls Try.prog 46 #[v] w (AnsRw w n R F) := by
  obtain ⟨A, c, V, rfl, hnc, hrow, hf⟩ := h
  have HF := Lib.hid hf
  have HRR := Lib.hid hR
  have HRow := Lib.hid hrow
  clear hf hR hrow
  go_enter Try.func46, Try.ntmps46
  go_wp2_with fail
  go_loopw [3, 9] (fun q i wr => ∃ k : Nat, k ≤ n ∧ i = .int .i64 k ∧ OwnB w.heap.size wr q k R F ∧ Below w.heap.size w wr) (fun _ i _ => n - (intOf i).toNat)
  case atStart => exact ⟨0, by omega, rfl, OwnB.empty (Nat.le_refl _) _ _, below_alloc _ _⟩
  case round =>
    obtain ⟨k, hk, rfl, how, hb⟩ := hrel
    by_cases hlt : k < n
    · obtain ⟨b, o, rfl, hr0⟩ := HRow.out (by omega)
      have c1 := up_keep hb (hr0 k hlt)
      obtain ⟨a1, q1, e1, _⟩ := (HF.out k hlt).shape
      have HC := Lib.hid (copyInts_g (V k) (R k) (F k) wr ((HF.out k hlt).up hb) (HRR.out k hlt))
      rw [e1] at c1 HC
      have hs := hb.size
      clear hr0 e1
      go_wp2_with fail
      refine (HC.out).mono ?_
      rintro e w2 ⟨v2, rfl, ho, hb2⟩
      obtain ⟨a2, q2, rfl, _⟩ := ho.shape
      go_wp2_with (at_builtin; refine wpList_app_row (wa := wr) rfl (.tmp 13) (.tmp 16) rfl w.heap.size _ k R F rfl rfl (by simp [go_sem]) how hs (show Below wr.heap.size wr _ from (by (repeat (first | with_reducible exact Below.refl _ _ | with_reducible assumption | with_reducible refine up_alloc ?_ _ | with_reducible refine up_drew ?_ | with_reducible refine up_drewN ?_ _ | (with_reducible refine up_set ?_ ?hset _; case hset => first | (simp; done) | (simp; omega) | omega) | with_reducible refine up_trans ?_ (by with_reducible assumption))))) (ho.up (show Below w2.heap.size w2 _ from (by (repeat (first | with_reducible exact Below.refl _ _ | with_reducible assumption | with_reducible refine up_alloc ?_ _ | with_reducible refine up_drew ?_ | with_reducible refine up_drewN ?_ _ | (with_reducible refine up_set ?_ ?hset _; case hset => first | (simp; done) | (simp; omega) | omega) | with_reducible refine up_trans ?_ (by with_reducible assumption)))))) (by omega) ?_; intro v3 w3 ho3 hb3; replace hb3 := (show Below w.heap.size w _ from (by (repeat (first | with_reducible exact Below.refl _ _ | with_reducible assumption | with_reducible refine up_alloc ?_ _ | with_reducible refine up_drew ?_ | with_reducible refine up_drewN ?_ _ | (with_reducible refine up_set ?_ ?hset _; case hset => first | (simp; done) | (simp; omega) | omega) | with_reducible refine up_trans ?_ (by with_reducible assumption))))).trans hb3)
      go_roundw
      case rel => exact ⟨k + 1, by omega, by go_num, ho3, hb3⟩
      case measure => simp [intOf]; omega
    · have e : k = n := by omega
      subst e
      go_wp2_with fail
      go_ret
      exact ⟨_, rfl, how.rw, hb⟩
end Go.Proofs.Ytadlemadnifohaa
