/- Words and contracts, part 8. -/
import Derived.Test.YtljdhicmcmppgaaRows
import Derived.Maps.AppendAt
import Derived.Deep.RegionHeld3
import Derived.Deep.QuietTactic
import Derived.Test.YtljdhicmcmppgaaZ7
namespace Go.Proofs.Ytljdhicmcmppgaa
open Go.RowKit

/-- The pairs L, each in a block of its own, in a slice of the call's own. -/
def OwnP (base : Nat) (w : World) (v : Value) (L : List (Nat × Nat)) : Prop := ∃ G : List Nat, G.length = L.length ∧ w.ownsRow base 35 1 v L.length (G.map fun g => .slice (some ⟨g, 0, none⟩) 2 2) ∧
  (∀ (i g : Nat), G[i]? = some g → base ≤ g ∧ g < w.heap.size ∧ v.ownBlock ≠ some g ∧ Free w g ∧ w.cell? ⟨g, 0, none⟩ = some (.int .i64 (L.getD i (0, 0)).1) ∧ w.cell? ⟨g, 1, none⟩ = some (.int .i64 (L.getD i (0, 0)).2)) ∧
  ∀ (i j g : Nat), G[i]? = some g → G[j]? = some g → i = j
def prF (L : List (Nat × Nat)) (i j : Nat) : Int := if j = 0 then ((L.getD i (0, 0)).1 : Int) else ((L.getD i (0, 0)).2 : Int)
theorem OwnP.up {base : Nat} {w w' : World} {v : Value} {L : List (Nat × Nat)} (h : OwnP base w v L) (hb : Below w.heap.size w w') : OwnP base w' v L := by
  obtain ⟨G, h1, h2, h3, h4⟩ := h
  refine ⟨G, h1, World.ownsRow.kept (row := none) h2 ⟨hb.os, hb.tape, hb.output, hb.size, fun k hk _ => hb.block k hk⟩ (by cases v.ownBlock <;> simp), fun i g hg => ?_, h4⟩
  obtain ⟨g1, g2, g3, g4, g5, g6⟩ := h3 i g hg
  exact ⟨g1, Nat.lt_of_lt_of_le g2 hb.size, g3, g4.up g2 hb, up_keep hb g5, up_keep hb g6⟩
theorem OwnP.nil (base : Nat) (w : World) : OwnP base w (.slice none 0 0) [] := ⟨[], rfl, World.ownsRow_nil _ _ _ _, fun i g h => by simp at h, fun i j g h => by simp at h⟩
theorem OwnP.empty {base : Nat} {w : World} (hb : base ≤ w.heap.size) : OwnP base (w.alloc (.cells #[] 35)) (.slice (some ⟨w.heap.size, 0, none⟩) 0 0) [] :=
  ⟨[], rfl, World.ownsRow_made w #[] 0 hb (by unfold maxLen; omega) rfl, fun i g h => by simp at h, fun i j g h => by simp at h⟩
theorem OwnP.own_ne {base : Nat} {w : World} {v : Value} {L : List (Nat × Nat)} (h : OwnP base w v L) {b : Nat} (hb : w.heap.size ≤ b) : v.ownBlock ≠ some b := fun e => by
  obtain ⟨G, h1, h2, h3, h4⟩ := h
  have := (World.ownsRow.lt h2 b e).2
  omega
theorem OwnP.rw {base : Nat} {w : World} {v : Value} {L : List (Nat × Nat)} (h : OwnP base w v L) : OwnRw base w v L.length (fun _ => 2) (prF L) := by
  obtain ⟨G, h1, h2, h3, h4⟩ := h
  have key : ∀ i, i < L.length → ∃ g, G[i]? = some g := fun i hi => ⟨G[i]'(by omega), List.getElem?_eq_getElem (by omega)⟩
  have hV : ∀ i, i < L.length → ∀ g, G[i]? = some g → (G.map fun g => Value.slice (some ⟨g, 0, none⟩) 2 2)[i]? = some (.slice (some ⟨g, 0, none⟩) 2 2) := fun i _ g hg => by rw [List.getElem?_map, hg]; rfl
  have h20 := h2
  have hgd : ∀ i gi, G[i]? = some gi → G.getD i 0 = gi := fun i gi h => by rw [List.getD_eq_getElem?_getD, h]; rfl
  have hA : ∃ A c, v = .slice A L.length c ∧ L.length ≤ c := by
    rcases h2.2 with ⟨rfl, h0⟩ | ⟨g, cap, cur, rfl, hb, hg, hnc, _⟩
    · exact ⟨none, 0, by rw [h0], by omega⟩
    · exact ⟨_, _, rfl, hnc⟩
  obtain ⟨A, c, hv, hc⟩ := hA
  refine ⟨A, c, fun i => .slice (some ⟨G.getD i 0, 0, none⟩) 2 2, hv, hc, fun hn => ?_, fun i hi => ?_, fun i j hi hj hij _ _ => ?_⟩
  · rcases h2.2 with ⟨_, h0⟩ | ⟨g, cap, cur, hv', hb, hg, hnc, _⟩
    · omega
    · rw [hv] at hv'
      injection hv' with e1
      subst e1
      refine ⟨g, 0, rfl, hb, fun i hi => ?_, fun i hi _ => ?_⟩
      · obtain ⟨gi, hgi⟩ := key i hi
        rw [Nat.zero_add]
        have := World.ownsRow.cellAt (hv ▸ h20) i (by omega)
        rw [this, hV i hi gi hgi]
        show _ = some (Value.slice (some ⟨G.getD i 0, 0, none⟩) 2 2)
        rw [hgd i gi hgi]
      · obtain ⟨gi, hgi⟩ := key i hi
        have := (h3 i gi hgi).2.2.1
        show (Value.slice (some ⟨G.getD i 0, 0, none⟩) 2 2).ownBlock ≠ some g
        rw [hgd i gi hgi]
        rw [hv] at this
        simpa [Value.ownBlock, eq_comm] using this
  · obtain ⟨gi, hgi⟩ := key i hi
    obtain ⟨g1, g2, g3, g4, g5, g6⟩ := h3 i gi hgi
    refine ⟨_, _, rfl, Nat.le_refl _, fun _ => ⟨gi, 0, by rw [hgd i gi hgi], g1, g4, fun j hj => ?_⟩⟩
    have hj' : j < 2 := hj
    rcases (by omega : j = 0 ∨ j = 1) with rfl | rfl
    · exact g5
    · exact g6
  · obtain ⟨gi, hgi⟩ := key i hi
    obtain ⟨gj, hgj⟩ := key j hj
    show (Value.slice (some ⟨G.getD i 0, 0, none⟩) 2 2).ownBlock ≠ (Value.slice (some ⟨G.getD j 0, 0, none⟩) 2 2).ownBlock
    rw [hgd i gi hgi, hgd j gj hgj]
    simp only [Value.ownBlock, ne_eq, Option.some.injEq]
    intro e
    subst e
    exact hij (h4 i j gi hgi hgj)
set_option maxRecDepth 100000 in
theorem info_ints : (Try.prog.info? 35).map (fun i => (i.zero, i.size, i.bytes)) = some (some (.slice none 0 0), 1, 24) := by kernel_rfl
set_option maxRecDepth 100000 in
/-- 'append(out, []int{p, q})'. -/
theorem run_app_pair {w : World} (ty : TypeId) (base : Nat) (v : Value) (L : List (Nat × Nat)) (p q : Nat) {g g2 : Nat} (hg0 : w.cell? ⟨g, 0, none⟩ = some (.int .i64 p)) (hg1 : w.cell? ⟨g, 1, none⟩ = some (.int .i64 q))
    (hfr : Free w g) (hbg : base ≤ g) (hc : w.cell? ⟨g2, 0, none⟩ = some (.slice (some ⟨g, 0, none⟩) 2 2)) {W : World} (hown : OwnP base W v L) (hWw : Below W.heap.size W w) (hWg : W.heap.size ≤ g) (hbase : base ≤ w.heap.size) (hn : L.length ≤ 1048576) :
    ∃ v' w', (Builtin.append_ #[48, 48] ty #[v, .slice (some ⟨g2, 0, none⟩) 1 1]).run Try.prog w = .ok v' w' ∧ OwnP base w' v' (L ++ [(p, q)]) ∧ Below base w w' ∧ w.grownBy w' v.ownBlock ∧ (v'.ownBlock = v.ownBlock ∨ v'.ownBlock = some w.heap.size) := by
  obtain ⟨i0, hi0, hz0, hz1, hz2⟩ := info_parts info_ints
  have hown' := hown.up hWw
  obtain ⟨G, h1, h2, h3, h4⟩ := hown'
  obtain ⟨G', k1, k2, k3, k4⟩ := hown
  have hglt : g < w.heap.size := lt_of_cell hg0
  have hvg : v.ownBlock ≠ some g := fun e => by
    have := (World.ownsRow.lt k2 g e).2
    omega
  obtain ⟨v', w', hr, m1, m2, _, m5⟩ := run_append_own_at (P := Try.prog) w base 48 ty 35 i0 _ 1 24 Try.underlying48 hi0 hz0 hz1 hz2 rfl (by omega) v L.length _ h2 ⟨g2, 0, none⟩ 1 1
    [.slice (some ⟨g, 0, none⟩) 2 2] rfl (by
      intro j u hu
      rw [add_none, Nat.zero_add]
      match j, hu with
      | 0, hu => simp only [List.getElem?_cons_zero, Option.some.injEq] at hu; subst hu; exact hc) (by
      intro u hu
      simp only [List.mem_cons, List.not_mem_nil, or_false] at hu
      subst hu; rfl) (by unfold maxLen; omega) (by omega) hbase
  have hnv : ∀ b, b < w.heap.size → v.ownBlock ≠ some b → v'.ownBlock ≠ some b := fun b hb hne e => by
    rcases m5 with m5 | m5
    · rw [m5] at e; exact hne e
    · rw [m5] at e; injection e with e; omega
  have hkeep : ∀ b oo x, w.cell? ⟨b, oo, none⟩ = some x → v.ownBlock ≠ some b → w'.cell? ⟨b, oo, none⟩ = some x := fun b oo x hx hne => (World.cell?_of_block (a := ⟨b, oo, none⟩) (m2.block b (lt_of_cell hx) (Ne.symm hne))).trans hx
  have hfree : ∀ b, b < w.heap.size → v.ownBlock ≠ some b → Free w b → Free w' b := fun b hb hne hf => hf.only hb m2 hne
  refine ⟨v', w', hr, ⟨G ++ [g], by simp [h1], by simpa using m1, fun i gi hgi => ?_, fun i j gi hi hj => ?_⟩, below_grown m2 hbase (fun k hk => (World.ownsRow.lt h2 k hk).1), m2, m5⟩
  · rcases Nat.lt_or_ge i G.length with hi | hi
    · rw [List.getElem?_append_left hi] at hgi
      obtain ⟨g1', g2', g3', g4', g5', g6'⟩ := h3 i gi hgi
      have e : (L ++ [(p, q)]).getD i (0, 0) = L.getD i (0, 0) := by rw [List.getD_eq_getElem?_getD, List.getD_eq_getElem?_getD, List.getElem?_append_left (by omega)]
      rw [e]
      exact ⟨g1', Nat.lt_of_lt_of_le g2' m2.size, hnv _ g2' g3', hfree _ g2' g3' g4', hkeep _ _ _ g5' g3', hkeep _ _ _ g6' g3'⟩
    · rw [List.getElem?_append_right hi] at hgi
      have hi0 : i - G.length = 0 := by
        rcases Nat.eq_zero_or_pos (i - G.length) with h | h
        · exact h
        · rw [List.getElem?_eq_none (by simp; omega)] at hgi; cases hgi
      rw [hi0] at hgi
      simp only [List.getElem?_cons_zero, Option.some.injEq] at hgi
      subst hgi
      have e : (L ++ [(p, q)]).getD i (0, 0) = (p, q) := by
        rw [List.getD_eq_getElem?_getD, List.getElem?_append_right (by omega), show i - L.length = 0 by omega]; rfl
      rw [e]
      exact ⟨hbg, Nat.lt_of_lt_of_le hglt m2.size, hnv _ hglt hvg, hfree _ hglt hvg hfr, hkeep _ _ _ hg0 hvg, hkeep _ _ _ hg1 hvg⟩
  · have old : ∀ i gi, i < G.length → (G ++ [g])[i]? = some gi → gi < W.heap.size := fun i gi hi hgi => by
      rw [List.getElem?_append_left hi] at hgi
      have : G'[i]? = some gi := by
        rcases h2.2 with ⟨e0, h0⟩ | ⟨gg, cap, cur, e0, _, hgg, _⟩
        · omega
        · subst e0
          have hcel := World.ownsRow.cellAt h2 i (show i < L.length * 1 by omega)
          have hW1 := World.ownsRow.cellAt k2 i (show i < L.length * 1 by omega)
          have a1 : w.cell? ⟨gg, i, none⟩ = some (.slice (some ⟨gi, 0, none⟩) 2 2) := by
            rw [hcel, List.getElem?_map, hgi]; rfl
          have hi' : i < G'.length := by omega
          have a2 : W.cell? ⟨gg, i, none⟩ = some (.slice (some ⟨G'[i], 0, none⟩) 2 2) := by
            rw [hW1, List.getElem?_map, List.getElem?_eq_getElem hi']; rfl
          rw [up_keep hWw a2] at a1
          injection a1 with a1
          injection a1 with a1
          injection a1 with a1
          injection a1 with a1
          rw [List.getElem?_eq_getElem hi', a1]
      exact (k3 i gi this).2.1
    rcases Nat.lt_or_ge i G.length with h | h <;> rcases Nat.lt_or_ge j G.length with h' | h'
    · rw [List.getElem?_append_left h] at hi
      rw [List.getElem?_append_left h'] at hj
      exact h4 i j gi hi hj
    · have o1 := old i gi h hi
      rw [List.getElem?_append_right h'] at hj
      have hj0 : j - G.length = 0 := by
        rcases Nat.eq_zero_or_pos (j - G.length) with q | q
        · exact q
        · rw [List.getElem?_eq_none (by simp; omega)] at hj; cases hj
      rw [hj0] at hj
      simp only [List.getElem?_cons_zero, Option.some.injEq] at hj
      omega
    · have o1 := old j gi h' hj
      rw [List.getElem?_append_right h] at hi
      have hi0 : i - G.length = 0 := by
        rcases Nat.eq_zero_or_pos (i - G.length) with q | q
        · exact q
        · rw [List.getElem?_eq_none (by simp; omega)] at hi; cases hi
      rw [hi0] at hi
      simp only [List.getElem?_cons_zero, Option.some.injEq] at hi
      omega
    · have a : i < (G ++ [g]).length := by
        rcases Nat.lt_or_ge i (G ++ [g]).length with q | q
        · exact q
        · rw [List.getElem?_eq_none q] at hi; cases hi
      have b : j < (G ++ [g]).length := by
        rcases Nat.lt_or_ge j (G ++ [g]).length with q | q
        · exact q
        · rw [List.getElem?_eq_none q] at hj; cases hj
      simp at a b
      omega
theorem wpList_app_pair {ops : Array Oper} {rest : List Oper} {o : Oper} {a : Act} {Q : Exit → Act → World → Prop} {w : World} (hgd : o.guard = none) (s x : Operand)
    (ho : o.op = .call { callee := .builtin .append, args := #[s, x], argTypes := #[48, 48] })
    (base : Nat) (v : Value) (L : List (Nat × Nat)) (p q : Nat) {g g2 : Nat} (hs : a.eval s = v) (hx : a.eval x = .slice (some ⟨g2, 0, none⟩) 1 1)
    (hg0 : w.cell? ⟨g, 0, none⟩ = some (.int .i64 p)) (hg1 : w.cell? ⟨g, 1, none⟩ = some (.int .i64 q)) (hfr : Free w g) (hbg : base ≤ g) (hc : w.cell? ⟨g2, 0, none⟩ = some (.slice (some ⟨g, 0, none⟩) 2 2))
    {W : World} (hown : OwnP base W v L) (hWw : Below W.heap.size W w) (hWg : W.heap.size ≤ g) (hbase : base ≤ w.heap.size) (hn : L.length ≤ 1048576)
    (h : ∀ v' w', OwnP base w' v' (L ++ [(p, q)]) → Below base w w' → w.grownBy w' v.ownBlock → (v'.ownBlock = v.ownBlock ∨ v'.ownBlock = some w.heap.size) → wpList Try.prog ops Q rest (a.put o.dst v') w') : wpList Try.prog ops Q (o :: rest) a w := by
  obtain ⟨v', w', hr, h1, h2, h3, h4⟩ := run_app_pair o.type base v L p q hg0 hg1 hfr hbg hc hown hWw hWg hbase hn
  refine wpList_plain hgd fun _ hK => ?_
  unfold Oper.wp execOp
  simp only [ho, resolve, invoke, builtin, Sem.run_bind, Sem.run_pure, Result.andThen_ok, List.map_toArray, List.map_cons, List.map_nil, hs, hx, hr]
  exact hK _ _ (h v' w' h1 h2 h3 h4)
end Go.Proofs.Ytljdhicmcmppgaa
namespace Go.Proofs.Ytljdhicmcmppgaa
open Go.RowKit

/-- Do two moves stay so far apart? -/
def saMM (a b : Nat → Int) (d : Int) : Bool := saB (a 0) (a 1) (a 2) (a 3) (b 0) (b 1) (b 2) (b 3) d
def cpStep (S : Nat → Nat → Bool) (a b : Nat) (L : List (Nat × Nat)) : List (Nat × Nat) := if S a b then L else L ++ [(a, b)]
def cpIn (S : Nat → Nat → Bool) (a : Nat) (L : List (Nat × Nat)) : Nat → List (Nat × Nat)
  | 0 => L
  | j + 1 => cpStep S a (a + 1 + j) (cpIn S a L j)
def cpOut (S : Nat → Nat → Bool) (n : Nat) : Nat → List (Nat × Nat)
  | 0 => []
  | a + 1 => cpIn S a (cpOut S n a) (n - (a + 1))
theorem cpIn_len (S : Nat → Nat → Bool) (a : Nat) (L : List (Nat × Nat)) : ∀ j, (cpIn S a L j).length ≤ L.length + j
  | 0 => Nat.le_refl _
  | j + 1 => by
    have := cpIn_len S a L j
    simp only [cpIn, cpStep]
    split
    · omega
    · rw [List.length_append]; simp; omega
theorem cpOut_len (S : Nat → Nat → Bool) (n : Nat) : ∀ a, (cpOut S n a).length ≤ a * n
  | 0 => by simp [cpOut]
  | a + 1 => by
    have h1 := cpOut_len S n a
    have h2 := cpIn_len S a (cpOut S n a) (n - (a + 1))
    simp only [cpOut]
    rw [Nat.add_mul, Nat.one_mul]
    omega
def mmS (M : Nat → Nat → Int) (d : Int) (i j : Nat) : Bool := saMM (M i) (M j) d
def cvOk (n : Nat) (M : Nat → Nat → Int) (d : Int) : Bool := tgL n M && inB d 0 80
def cvL (n : Nat) (M : Nat → Nat → Int) (d : Int) : List (Nat × Nat) := if cvOk n M d then cpOut (mmS M d) n n else []
theorem sumR_two : ∀ N, sumR (fun _ => 2) N = 2 * N
  | 0 => rfl
  | N + 1 => by rw [sumR, sumR_two N]; omega
theorem cvL_len (n : Nat) (M : Nat → Nat → Int) (d : Int) : (cvL n M d).length ≤ 144 := by
  unfold cvL
  split
  · rename_i h
    simp only [cvOk, Bool.and_eq_true] at h
    have h1 := (tgL_iff h.1).1
    have h2 := cpOut_len (mmS M d) n n
    have h3 : n * n ≤ 12 * 12 := Nat.mul_le_mul h1.2 h1.2
    omega
  · simp
set_option maxRecDepth 100000 in
set_option maxHeartbeats 4000000 in
theorem iCloseMoves_any (v : Value) (n : Nat) (M : Nat → Nat → Int) (d : Int) (w : World) (h : Moves w v n M) (hn : n ≤ 1048576) :
    Calls Try.prog 27 #[v, .int .i64 d] w (AnsRwB w (cvL n M d).length (fun _ => 2) (prF (cvL n M d)) (cvOk n M d)) := by
  have HT := Lib.hid (areTogether_g v n M w h hn)
  cases ht : tgL n M with
  | false =>
    rw [ht] at HT
    rw [show cvOk n M d = false by simp [cvOk, ht], show cvL n M d = [] by simp [cvL, cvOk, ht]]
    clear h ht
    go_enter Try.func27, Try.ntmps27
    go_wp2_with (go_at_call 55; refine HT.out.mono ?_; rintro e w1 ⟨rfl, hb⟩)
    go_ret2
    exact AnsRwB.nil hb
  | true =>
    rw [ht] at HT
    cases hd : inB d 0 80 with
    | false =>
      rw [show cvOk n M d = false by simp [cvOk, hd], show cvL n M d = [] by simp [cvL, cvOk, hd]]
      clear h ht
      go_enter Try.func27, Try.ntmps27
      go_wp2_with (first | (go_at_call 55; refine HT.out.mono ?_; rintro e w1 ⟨rfl, hb⟩) | (go_at_call 44; refine (within_any _ _ _ _).mono ?_; rintro e w1 ⟨rfl, rfl⟩))
      go_ret2
      exact AnsRwB.nil hb
    | true =>
      rw [show cvOk n M d = true by simp [cvOk, hd, ht], show cvL n M d = cpOut (mmS M d) n n by simp [cvL, cvOk, hd, ht]]
      obtain ⟨d1, d2⟩ := inB_iff.1 hd
      obtain ⟨⟨n2, n12⟩, _, hmv⟩ := tgL_iff ht
      obtain ⟨A, c, rfl, hnc, hrow⟩ := h
      obtain ⟨b, o, rfl, hr⟩ := hrow (by omega)
      have HR := Lib.hid hr
      have HCA := Lib.hid (fun i j (hi : i < n) (hj : j < n) W => (show Calls Try.prog 45 #[mvV (M i), mvV (M j), .int .i64 d] W (Ans W (.bool (mmS M d i j))) from stayApart_any _ _ _ _ _ _ _ _ _ _ d (hmv i hi) (hmv j hj) d1 d2 W))
      have HLn := Lib.hid (fun a => cpOut_len (mmS M d) n a)
      have HLi := Lib.hid (fun a L j => cpIn_len (mmS M d) a L j)
      have HS := Lib.hid (show ∀ a, cpOut (mmS M d) n (a + 1) = cpIn (mmS M d) a (cpOut (mmS M d) n a) (n - (a + 1)) from fun _ => rfl)
      clear hr hrow hmv ht
      go_enter Try.func27, Try.ntmps27
      go_wp2_with (first | (go_at_call 55; refine HT.out.mono ?_; rintro e wT ⟨rfl, hb1⟩) | (go_at_call 44; refine (within_any _ _ _ _).mono ?_; rintro e w1 ⟨rfl, rfl⟩))
      go_loopw [6, 20] (fun q i wr => ∃ a : Nat, a ≤ n ∧ i = .int .i64 a ∧ OwnP wT.heap.size wr q (cpOut (mmS M d) n a) ∧ Below wT.heap.size wT wr) (fun _ i _ => n - (intOf i).toNat)
      case atStart => exact ⟨0, by omega, rfl, OwnP.empty (Nat.le_refl _), below_alloc _ _⟩
      case round =>
        obtain ⟨a, ha, rfl, how, hb⟩ := hrel
        by_cases hlt : a < n
        · obtain ⟨Ls, hLs⟩ : ∃ Ls, Ls = cpOut (mmS M d) n a := ⟨_, rfl⟩
          have hl0 := HLn.out a
          have hl1 : a * n ≤ 12 * 12 := Nat.mul_le_mul (by omega) (by omega)
          have HSa := Lib.hid (show cpOut (mmS M d) n (a + 1) = cpIn (mmS M d) a Ls (n - (a + 1)) by rw [HS.out, hLs])
          rw [← hLs] at how hl0
          clear hLs
          obtain ⟨W3, rfl⟩ : ∃ W3 : World, W3 = wr := ⟨_, rfl⟩
          have hbw := hb
          go_wp2_with fail
          go_loopw [6, 8] (fun q i wi => ∃ j : Nat, a + 1 + j ≤ n ∧ i = .int .i64 ((a + 1 + j : Nat) : Int) ∧ OwnP wT.heap.size wi q (cpIn (mmS M d) a Ls j) ∧ Below wT.heap.size wT wi) (fun _ i _ => n - (intOf i).toNat)
          case atStart => exact ⟨0, by omega, congrArg (Value.int .i64) (by omega), how, hbw⟩
          case round =>
            obtain ⟨j, hj, rfl, hoi, hb2⟩ := hrel
            by_cases hltj : a + 1 + j < n
            · have hC := HCA.out a (a + 1 + j) hlt hltj
              have hl2 := HLi.out a Ls j
              have HSj := Lib.hid (show cpIn (mmS M d) a Ls (j + 1) = if mmS M d a (a + 1 + j) then cpIn (mmS M d) a Ls j else cpIn (mmS M d) a Ls j ++ [(a, a + 1 + j)] from rfl)
              generalize cpIn (mmS M d) a Ls j = Lj at *
              have gb := (HR.out (a + 1 + j) hltj).up (hb1.trans (hb2.mono hb1.size))
              have d0 := cell_regrown gb.c0
              have d1' := cell_regrown gb.c1
              have d2' := cell_regrown gb.c2
              have d3 := cell_regrown gb.c3
              have d4 := cell_regrown gb.c4
              have ga2 := (HR.out a hlt).up (hb1.trans (hb2.mono hb1.size))
              have c0 := cell_regrown ga2.c0
              have c1 := cell_regrown ga2.c1
              have c2 := cell_regrown ga2.c2
              have c3 := cell_regrown ga2.c3
              have c4 := cell_regrown ga2.c4
              clear gb ga2
              have i1 : (a : Int) < (n : Int) := by omega
              have i2 : ((a + 1 + j : Nat) : Int) < (n : Int) := by omega
              cases hq : mmS M d a (a + 1 + j) with
              | true =>
                rw [hq] at hC
                have HC := Lib.hid hC
                have HZ := Lib.hid (show cpIn (mmS M d) a Ls (j + 1) = Lj by rw [HSj.out, if_pos hq])
                clear hC hq
                go_wp2_with fail
                refine wp_region_up (by kernel_rfl) (by kernel_rfl) ?_
                repeat (go_big_quiet_step (exact up_of (fun W _ => HC.out W) _ _))
                refine wpQuiet_nil ?_
                intro w1 hb0
                obtain ⟨hc0, hf0⟩ := bcell hb0
                clear c0 c1 c2 c3 c4 d0 d1' d2' d3 d4 hc0 hf0
                have hb4 := hb2.trans (hb0.mono hb2.size)
                have ho4 := hoi.up hb0
                go_wp2_with fail
                go_roundw
                case rel => exact ⟨j + 1, by omega, congrArg (Value.int .i64) (by omega), by rw [HZ.out]; exact ho4, hb4⟩
                case measure => simp [intOf]; omega
              | false =>
                rw [hq] at hC
                have HC := Lib.hid hC
                have HZ := Lib.hid (show cpIn (mmS M d) a Ls (j + 1) = Lj ++ [(a, a + 1 + j)] by rw [HSj.out, if_neg (by rw [hq]; simp)])
                clear hC hq
                go_wp2_with fail
                refine wp_region_up (by kernel_rfl) (by kernel_rfl) ?_
                repeat (go_big_quiet_step (exact up_of (fun W _ => HC.out W) _ _))
                refine wpQuiet_nil ?_
                intro w1 hb0
                obtain ⟨hc0, hf0⟩ := bcell hb0
                clear c0 c1 c2 c3 c4 d0 d1' d2' d3 d4 hc0 hf0
                obtain ⟨w4, rfl⟩ : ∃ w4 : World, w4 = w1 := ⟨_, rfl⟩
                have hb4 := hb2.trans (hb0.mono hb2.size)
                have ho4 := hoi.up hb0
                go_wp2_with (at_builtin; refine wpList_app_pair rfl (.tmp 42) (.tmp 46) rfl wT.heap.size _ Lj a (a + 1 + j) (g := w4.heap.size) rfl rfl (by simp [go_sem]) (by simp [go_sem]) (fun o => by simp [go_sem]) (by have := hb4.size; omega) (by simp [go_sem]) ho4 (show Below w4.heap.size w4 _ from (by (repeat (first | with_reducible exact Below.refl _ _ | with_reducible assumption | with_reducible refine up_alloc ?_ _ | with_reducible refine up_drew ?_ | with_reducible refine up_drewN ?_ _ | (with_reducible refine up_set ?_ ?hset _; case hset => first | (simp; done) | (simp; omega) | omega) | with_reducible refine up_trans ?_ (by with_reducible assumption))))) (Nat.le_refl _) (by have := hb4.size; simp; omega) (by omega) ?_; intro v2 w5 ho5 hb5 hg5 hn5; replace hb5 := (hb4.trans ((show Below w4.heap.size w4 _ from (by (repeat (first | with_reducible exact Below.refl _ _ | with_reducible assumption | with_reducible refine up_alloc ?_ _ | with_reducible refine up_drew ?_ | with_reducible refine up_drewN ?_ _ | (with_reducible refine up_set ?_ ?hset _; case hset => first | (simp; done) | (simp; omega) | omega) | with_reducible refine up_trans ?_ (by with_reducible assumption))))).mono hb4.size)).trans hb5)
                go_roundw
                case rel => exact ⟨j + 1, by omega, congrArg (Value.int .i64) (by omega), by rw [HZ.out]; exact ho5, hb5⟩
                case measure => simp [intOf]; omega
            · have ej : j = n - (a + 1) := by omega
              subst ej
              go_wp2_with fail
              go_roundw
              case rel => exact ⟨a + 1, by omega, by go_num, by rw [HSa.out]; exact hoi, hb2⟩
              case measure => simp [intOf]; omega
        · have e : a = n := by omega
          subst e
          go_wp2_with fail
          go_ret2
          exact ⟨_, rfl, how.rw.more hb1.size, hb1.trans (hb.mono hb1.size)⟩
set_option maxRecDepth 100000 in
set_option maxHeartbeats 4000000 in
theorem sCloseMoves_any (v : Value) (n : Nat) (M : Nat → Nat → Int) (d : Int) (w : World) (h : Moves w v n M) (hn : n ≤ 1048576) :
    Calls Try.prog 28 #[v, .int .i64 d] w (AnsRwB w (cvL n M d).length (fun _ => 2) (prF (cvL n M d)) (cvOk n M d)) := by
  have HT := Lib.hid (apList_g v n M w h hn)
  cases ht : tgL n M with
  | false =>
    rw [ht] at HT
    rw [show cvOk n M d = false by simp [cvOk, ht], show cvL n M d = [] by simp [cvL, cvOk, ht]]
    clear h ht
    go_enter Try.func28, Try.ntmps28
    go_wp2_with (go_at_call 57; refine HT.out.mono ?_; rintro e w1 ⟨rfl, hb⟩)
    go_ret2
    exact AnsRwB.nil hb
  | true =>
    rw [ht] at HT
    cases hd : inB d 0 80 with
    | false =>
      rw [show cvOk n M d = false by simp [cvOk, hd], show cvL n M d = [] by simp [cvL, cvOk, hd]]
      clear h ht
      go_enter Try.func28, Try.ntmps28
      go_wp2_with (first | (go_at_call 57; refine HT.out.mono ?_; rintro e w1 ⟨rfl, hb⟩) | (go_at_call 46; refine (apDist_any _ _).mono ?_; rintro e w1 ⟨rfl, rfl⟩))
      go_ret2
      exact AnsRwB.nil hb
    | true =>
      rw [show cvOk n M d = true by simp [cvOk, hd, ht], show cvL n M d = cpOut (mmS M d) n n by simp [cvL, cvOk, hd, ht]]
      obtain ⟨d1, d2⟩ := inB_iff.1 hd
      obtain ⟨⟨n2, n12⟩, _, hmv⟩ := tgL_iff ht
      obtain ⟨A, c, rfl, hnc, hrow⟩ := h
      obtain ⟨b, o, rfl, hr⟩ := hrow (by omega)
      have HR := Lib.hid hr
      have HCA := Lib.hid (fun i j (hi : i < n) (hj : j < n) W => (show Calls Try.prog 47 #[mvV (M i), mvV (M j), .int .i64 d] W (Ans W (.bool (mmS M d i j))) from apStay_any _ _ _ _ _ _ _ _ _ _ d (hmv i hi) (hmv j hj) d1 d2 W))
      have HLn := Lib.hid (fun a => cpOut_len (mmS M d) n a)
      have HLi := Lib.hid (fun a L j => cpIn_len (mmS M d) a L j)
      have HS := Lib.hid (show ∀ a, cpOut (mmS M d) n (a + 1) = cpIn (mmS M d) a (cpOut (mmS M d) n a) (n - (a + 1)) from fun _ => rfl)
      clear hr hrow hmv ht
      go_enter Try.func28, Try.ntmps28
      go_wp2_with (first | (go_at_call 57; refine HT.out.mono ?_; rintro e wT ⟨rfl, hb1⟩) | (go_at_call 46; refine (apDist_any _ _).mono ?_; rintro e w1 ⟨rfl, rfl⟩))
      go_loopw [6, 20] (fun q i wr => ∃ a : Nat, a ≤ n ∧ i = .int .i64 a ∧ OwnP wT.heap.size wr q (cpOut (mmS M d) n a) ∧ Below wT.heap.size wT wr) (fun _ i _ => n - (intOf i).toNat)
      case atStart => exact ⟨0, by omega, rfl, OwnP.nil _ _, Below.refl _ _⟩
      case round =>
        obtain ⟨a, ha, rfl, how, hb⟩ := hrel
        by_cases hlt : a < n
        · obtain ⟨Ls, hLs⟩ : ∃ Ls, Ls = cpOut (mmS M d) n a := ⟨_, rfl⟩
          have hl0 := HLn.out a
          have hl1 : a * n ≤ 12 * 12 := Nat.mul_le_mul (by omega) (by omega)
          have HSa := Lib.hid (show cpOut (mmS M d) n (a + 1) = cpIn (mmS M d) a Ls (n - (a + 1)) by rw [HS.out, hLs])
          rw [← hLs] at how hl0
          clear hLs
          have gr := (HR.out a hlt).up (up_trans hb1 hb)
          obtain ⟨x0, x1, x2, x3, x4⟩ := gr
          go_wp2_with fail
          have hqb := OwnP.own_ne how (b := wr.heap.size) (Nat.le_refl _)
          generalize hW3 : World.alloc wr _ = W3 at *
          have hb3 : Below wr.heap.size wr W3 := by subst hW3; (repeat (first | with_reducible exact Below.refl _ _ | with_reducible assumption | with_reducible refine up_alloc ?_ _ | with_reducible refine up_drew ?_ | with_reducible refine up_drewN ?_ _ | (with_reducible refine up_set ?_ ?hset _; case hset => first | (simp; done) | (simp; omega) | omega) | with_reducible refine up_trans ?_ (by with_reducible assumption)))
          have hbw := up_trans hb hb3
          have hwb : wr.heap.size < W3.heap.size := by subst hW3; simp
          have y0 : W3.cell? ⟨wr.heap.size, 0, none⟩ = some (.int .i64 (M a 0)) := by subst hW3; simp [go_sem]
          have y1 : W3.cell? ⟨wr.heap.size, 1, none⟩ = some (.int .i64 (M a 1)) := by subst hW3; simp [go_sem]
          have y2 : W3.cell? ⟨wr.heap.size, 2, none⟩ = some (.int .i64 (M a 2)) := by subst hW3; simp [go_sem]
          have y3 : W3.cell? ⟨wr.heap.size, 3, none⟩ = some (.int .i64 (M a 3)) := by subst hW3; simp [go_sem]
          have y4 : W3.cell? ⟨wr.heap.size, 4, none⟩ = some (.int .i64 (M a 4)) := by subst hW3; simp [go_sem]
          replace how := how.up hb3
          clear hW3 x0 x1 x2 x3 x4
          go_loopw [6, 9] (fun q i wi => ∃ j : Nat, a + 1 + j ≤ n ∧ i = .int .i64 ((a + 1 + j : Nat) : Int) ∧ OwnP wT.heap.size wi q (cpIn (mmS M d) a Ls j) ∧ Below wT.heap.size wT wi ∧ wi.cell? ⟨wr.heap.size, 0, none⟩ = some (.int .i64 (M a 0)) ∧ wi.cell? ⟨wr.heap.size, 1, none⟩ = some (.int .i64 (M a 1)) ∧ wi.cell? ⟨wr.heap.size, 2, none⟩ = some (.int .i64 (M a 2)) ∧ wi.cell? ⟨wr.heap.size, 3, none⟩ = some (.int .i64 (M a 3)) ∧ wi.cell? ⟨wr.heap.size, 4, none⟩ = some (.int .i64 (M a 4)) ∧ q.ownBlock ≠ some wr.heap.size ∧ wr.heap.size < wi.heap.size) (fun _ i _ => n - (intOf i).toNat)
          case atStart => exact ⟨0, by omega, congrArg (Value.int .i64) (by omega), how, hbw, y0, y1, y2, y3, y4, hqb, hwb⟩
          case round =>
            obtain ⟨j, hj, rfl, hoi, hb2, y0, y1, y2, y3, y4, hqb, hwb⟩ := hrel
            by_cases hltj : a + 1 + j < n
            · have hC := HCA.out a (a + 1 + j) hlt hltj
              have hl2 := HLi.out a Ls j
              have HSj := Lib.hid (show cpIn (mmS M d) a Ls (j + 1) = if mmS M d a (a + 1 + j) then cpIn (mmS M d) a Ls j else cpIn (mmS M d) a Ls j ++ [(a, a + 1 + j)] from rfl)
              generalize cpIn (mmS M d) a Ls j = Lj at *
              have gb := (HR.out (a + 1 + j) hltj).up (hb1.trans (hb2.mono hb1.size))
              have d0 := cell_regrown gb.c0
              have d1' := cell_regrown gb.c1
              have d2' := cell_regrown gb.c2
              have d3 := cell_regrown gb.c3
              have d4 := cell_regrown gb.c4
              have c0 := cell_regrown y0
              have c1 := cell_regrown y1
              have c2 := cell_regrown y2
              have c3 := cell_regrown y3
              have c4 := cell_regrown y4
              clear gb
              have i1 : (a : Int) < (n : Int) := by omega
              have i2 : ((a + 1 + j : Nat) : Int) < (n : Int) := by omega
              cases hq : mmS M d a (a + 1 + j) with
              | true =>
                rw [hq] at hC
                have HC := Lib.hid hC
                have HZ := Lib.hid (show cpIn (mmS M d) a Ls (j + 1) = Lj by rw [HSj.out, if_pos hq])
                clear hC hq
                go_wp2_with fail
                refine wp_region_up (by kernel_rfl) (by kernel_rfl) ?_
                repeat (go_big_quiet_step (exact up_of (fun W _ => HC.out W) _ _))
                refine wpQuiet_nil ?_
                intro w1 hb0
                obtain ⟨hc0, hf0⟩ := bcell hb0
                clear c0 c1 c2 c3 c4 d0 d1' d2' d3 d4 hc0 hf0
                have hb4 := hb2.trans (hb0.mono hb2.size)
                have ho4 := hoi.up hb0
                go_wp2_with fail
                go_roundw
                case rel => exact ⟨j + 1, by omega, congrArg (Value.int .i64) (by omega), by rw [HZ.out]; exact ho4, hb4, up_keep hb0 y0, up_keep hb0 y1, up_keep hb0 y2, up_keep hb0 y3, up_keep hb0 y4, hqb, Nat.lt_of_lt_of_le hwb hb0.size⟩
                case measure => simp [intOf]; omega
              | false =>
                rw [hq] at hC
                have HC := Lib.hid hC
                have HZ := Lib.hid (show cpIn (mmS M d) a Ls (j + 1) = Lj ++ [(a, a + 1 + j)] by rw [HSj.out, if_neg (by rw [hq]; simp)])
                clear hC hq
                go_wp2_with fail
                refine wp_region_up (by kernel_rfl) (by kernel_rfl) ?_
                repeat (go_big_quiet_step (exact up_of (fun W _ => HC.out W) _ _))
                refine wpQuiet_nil ?_
                intro w1 hb0
                obtain ⟨hc0, hf0⟩ := bcell hb0
                clear c0 c1 c2 c3 c4 d0 d1' d2' d3 d4 hc0 hf0
                obtain ⟨w4, rfl⟩ : ∃ w4 : World, w4 = w1 := ⟨_, rfl⟩
                have hb4 := hb2.trans (hb0.mono hb2.size)
                have ho4 := hoi.up hb0
                go_wp2_with (at_builtin; refine wpList_app_pair rfl (.tmp 41) (.tmp 45) rfl wT.heap.size _ Lj a (a + 1 + j) (g := w4.heap.size) rfl rfl (by simp [go_sem]) (by simp [go_sem]) (fun o => by simp [go_sem]) (by have := hb4.size; omega) (by simp [go_sem]) ho4 (show Below w4.heap.size w4 _ from (by (repeat (first | with_reducible exact Below.refl _ _ | with_reducible assumption | with_reducible refine up_alloc ?_ _ | with_reducible refine up_drew ?_ | with_reducible refine up_drewN ?_ _ | (with_reducible refine up_set ?_ ?hset _; case hset => first | (simp; done) | (simp; omega) | omega) | with_reducible refine up_trans ?_ (by with_reducible assumption))))) (Nat.le_refl _) (by have := hb4.size; simp; omega) (by omega) ?_; intro v2 w5 ho5 hb5 hg5 hn5; have z0 := far_keep (show Below w4.heap.size w4 _ from (by (repeat (first | with_reducible exact Below.refl _ _ | with_reducible assumption | with_reducible refine up_alloc ?_ _ | with_reducible refine up_drew ?_ | with_reducible refine up_drewN ?_ _ | (with_reducible refine up_set ?_ ?hset _; case hset => first | (simp; done) | (simp; omega) | omega) | with_reducible refine up_trans ?_ (by with_reducible assumption))))) hg5 (up_keep hb0 y0) hqb; have z1 := far_keep (show Below w4.heap.size w4 _ from (by (repeat (first | with_reducible exact Below.refl _ _ | with_reducible assumption | with_reducible refine up_alloc ?_ _ | with_reducible refine up_drew ?_ | with_reducible refine up_drewN ?_ _ | (with_reducible refine up_set ?_ ?hset _; case hset => first | (simp; done) | (simp; omega) | omega) | with_reducible refine up_trans ?_ (by with_reducible assumption))))) hg5 (up_keep hb0 y1) hqb; have z2 := far_keep (show Below w4.heap.size w4 _ from (by (repeat (first | with_reducible exact Below.refl _ _ | with_reducible assumption | with_reducible refine up_alloc ?_ _ | with_reducible refine up_drew ?_ | with_reducible refine up_drewN ?_ _ | (with_reducible refine up_set ?_ ?hset _; case hset => first | (simp; done) | (simp; omega) | omega) | with_reducible refine up_trans ?_ (by with_reducible assumption))))) hg5 (up_keep hb0 y2) hqb; have z3 := far_keep (show Below w4.heap.size w4 _ from (by (repeat (first | with_reducible exact Below.refl _ _ | with_reducible assumption | with_reducible refine up_alloc ?_ _ | with_reducible refine up_drew ?_ | with_reducible refine up_drewN ?_ _ | (with_reducible refine up_set ?_ ?hset _; case hset => first | (simp; done) | (simp; omega) | omega) | with_reducible refine up_trans ?_ (by with_reducible assumption))))) hg5 (up_keep hb0 y3) hqb; have z4 := far_keep (show Below w4.heap.size w4 _ from (by (repeat (first | with_reducible exact Below.refl _ _ | with_reducible assumption | with_reducible refine up_alloc ?_ _ | with_reducible refine up_drew ?_ | with_reducible refine up_drewN ?_ _ | (with_reducible refine up_set ?_ ?hset _; case hset => first | (simp; done) | (simp; omega) | omega) | with_reducible refine up_trans ?_ (by with_reducible assumption))))) hg5 (up_keep hb0 y4) hqb; have zq := own_step (show Below w4.heap.size w4 _ from (by (repeat (first | with_reducible exact Below.refl _ _ | with_reducible assumption | with_reducible refine up_alloc ?_ _ | with_reducible refine up_drew ?_ | with_reducible refine up_drewN ?_ _ | (with_reducible refine up_set ?_ ?hset _; case hset => first | (simp; done) | (simp; omega) | omega) | with_reducible refine up_trans ?_ (by with_reducible assumption))))) hn5 hqb (Nat.lt_of_lt_of_le hwb hb0.size); have zs := Nat.lt_of_lt_of_le (Nat.lt_of_lt_of_le hwb hb0.size) (Nat.le_trans (show Below w4.heap.size w4 _ from (by (repeat (first | with_reducible exact Below.refl _ _ | with_reducible assumption | with_reducible refine up_alloc ?_ _ | with_reducible refine up_drew ?_ | with_reducible refine up_drewN ?_ _ | (with_reducible refine up_set ?_ ?hset _; case hset => first | (simp; done) | (simp; omega) | omega) | with_reducible refine up_trans ?_ (by with_reducible assumption))))).size hg5.size); replace hb5 := (hb4.trans ((show Below w4.heap.size w4 _ from (by (repeat (first | with_reducible exact Below.refl _ _ | with_reducible assumption | with_reducible refine up_alloc ?_ _ | with_reducible refine up_drew ?_ | with_reducible refine up_drewN ?_ _ | (with_reducible refine up_set ?_ ?hset _; case hset => first | (simp; done) | (simp; omega) | omega) | with_reducible refine up_trans ?_ (by with_reducible assumption))))).mono hb4.size)).trans hb5)
                go_roundw
                case rel => exact ⟨j + 1, by omega, congrArg (Value.int .i64) (by omega), by rw [HZ.out]; exact ho5, hb5, z0, z1, z2, z3, z4, zq, zs⟩
                case measure => simp [intOf]; omega
            · have ej : j = n - (a + 1) := by omega
              subst ej
              go_wp2_with fail
              go_roundw
              case rel => exact ⟨a + 1, by omega, by go_num, by rw [HSa.out]; exact hoi, hb2⟩
              case measure => simp [intOf]; omega
        · have e : a = n := by omega
          subst e
          go_wp2_with fail
          go_ret2
          exact ⟨_, rfl, how.rw.more hb1.size, hb1.trans (hb.mono hb1.size)⟩
end Go.Proofs.Ytljdhicmcmppgaa
namespace Go.Proofs.Ytljdhicmcmppgaa
open Go.RowKit

/-- The cross product of the ways from the first spot to the others. -/
def crs (x y u v p q : Int) : Int := (u - x) * (q - y) - (v - y) * (p - x)
def sgn (n : Int) : Int := if 0 < n then 1 else if n < 0 then -1 else 0
def btw (a b c : Int) : Bool := inB c (min a b) (max a b)
def bxB (x y u v p q : Int) : Bool := btw x u p && btw y v q
def onB (x y u v p q : Int) : Bool := decide (crs x y u v p q = 0) && bxB x y u v p q
/-- Do two ways cross? -/
def wcB (x y u v x' y' u' v' : Int) : Bool :=
  (((onB x y u v x' y' || onB x y u v u' v') || onB x' y' u' v' x y) || onB x' y' u' v' u v) ||
    (decide (sgn (crs x y u v x' y') * sgn (crs x y u v u' v') < 0) && decide (sgn (crs x' y' u' v' x y) * sgn (crs x' y' u' v' u v) < 0))
theorem wc_comm (x y u v x' y' u' v' : Int) : wcB x' y' u' v' x y u v = wcB x y u v x' y' u' v' := by
  unfold wcB
  generalize onB x y u v x' y' = a
  generalize onB x y u v u' v' = b
  generalize onB x' y' u' v' x y = c
  generalize onB x' y' u' v' u v = d
  generalize decide (sgn (crs x y u v x' y') * sgn (crs x y u v u' v') < 0) = e
  generalize decide (sgn (crs x' y' u' v' x y) * sgn (crs x' y' u' v' u v) < 0) = f
  cases a <;> cases b <;> cases c <;> cases d <;> cases e <;> cases f <;> rfl
theorem sgn_eq (n : Int) : (sgn n = 0 ↔ n = 0) ∧ -1 ≤ sgn n ∧ sgn n ≤ 1 := by
  unfold sgn
  repeat' split
  all_goals omega
theorem btw_prod {a b c : Int} (h : (c - a) * (c - b) ≤ 0) : btw a b c = true := by
  refine inB_iff.2 ⟨?_, ?_⟩
  · by_cases hm : min a b ≤ c
    · exact hm
    · have := Int.mul_pos_of_neg_of_neg (show c - a < 0 by omega) (show c - b < 0 by omega)
      omega
  · by_cases hm : c ≤ max a b
    · exact hm
    · have := Int.mul_pos (show 0 < c - a by omega) (show 0 < c - b by omega)
      omega
theorem prod_sq {L p q s t a : Int} (hL : 0 < L) (h1 : L * p = s * a) (h2 : L * q = t * a) (h : s * t ≤ 0) : p * q ≤ 0 := by
  by_cases hp : p * q ≤ 0
  · exact hp
  · have h3 : 0 < L * L * (p * q) := Int.mul_pos (Int.mul_pos hL hL) (by omega)
    have h4 : L * L * (p * q) = s * t * (a * a) := by rw [show L * L * (p * q) = (L * p) * (L * q) by grind, h1, h2]; grind
    have h5 := Int.mul_nonpos_of_nonpos_of_nonneg h (sq_nonneg a)
    omega
theorem sgn_opp {m n c d : Int} (hm : 0 < m) (hn : 0 < n) (h : m * c + n * d = 0) (hc : c ≠ 0) : sgn c * sgn d < 0 := by
  by_cases h1 : 0 < c
  · have h2 := Int.mul_pos hm h1
    have h3 : d < 0 := by
      by_cases hd : d < 0
      · exact hd
      · have := Int.mul_nonneg (show 0 ≤ n by omega) (show 0 ≤ d by omega)
        omega
    rw [show sgn c = 1 from if_pos h1, show sgn d = -1 by unfold sgn; rw [if_neg (by omega), if_pos h3]]
    omega
  · have h2 := Int.mul_neg_of_pos_of_neg hm (show c < 0 by omega)
    have h3 : 0 < d := by
      by_cases hd : 0 < d
      · exact hd
      · have := Int.mul_nonpos_of_nonneg_of_nonpos (show 0 ≤ n by omega) (show d ≤ 0 by omega)
        omega
    rw [show sgn d = 1 from if_pos h3, show sgn c = -1 by unfold sgn; rw [if_neg h1, if_pos (by omega)]]
    omega
theorem onB_mk {x y u v p q : Int} (h : crs x y u v p q = 0) (h1 : (p - x) * (p - u) ≤ 0) (h2 : (q - y) * (q - v) ≤ 0) : onB x y u v p q = true := by
  unfold onB bxB
  rw [btw_prod h1, btw_prod h2, h]; rfl
/-- Ways that meet at one time cross. -/
theorem cross_core {m n x y u v x' y' u' v' : Int} (hm : 0 < m) (hn : 0 < n) (e1 : m * x + n * u = m * x' + n * u') (e2 : m * y + n * v = m * y' + n * v') : wcB x y u v x' y' u' v' = true := by
  have hcd : m * crs x y u v x' y' + n * crs x y u v u' v' = 0 := by
    unfold crs
    have a1 : m * (y' - y) + n * (v' - y) = n * (v - y) := by grind
    have a2 : m * (x' - x) + n * (u' - x) = n * (u - x) := by grind
    rw [show m * ((u - x) * (y' - y) - (v - y) * (x' - x)) + n * ((u - x) * (v' - y) - (v - y) * (u' - x)) = (u - x) * (m * (y' - y) + n * (v' - y)) - (v - y) * (m * (x' - x) + n * (u' - x)) by grind, a1, a2]
    grind
  have hef : m * crs x' y' u' v' x y + n * crs x' y' u' v' u v = 0 := by
    unfold crs
    have a1 : m * (y - y') + n * (v - y') = n * (v' - y') := by grind
    have a2 : m * (x - x') + n * (u - x') = n * (u' - x') := by grind
    rw [show m * ((u' - x') * (y - y') - (v' - y') * (x - x')) + n * ((u' - x') * (v - y') - (v' - y') * (u - x')) = (u' - x') * (m * (y - y') + n * (v - y')) - (v' - y') * (m * (x - x') + n * (u - x')) by grind, a1, a2]
    grind
  obtain ⟨ax, hax⟩ : ∃ t, u - x = t := ⟨_, rfl⟩
  obtain ⟨ay, hay⟩ : ∃ t, v - y = t := ⟨_, rfl⟩
  obtain ⟨gx, hgx⟩ : ∃ t, x' - x = t := ⟨_, rfl⟩
  obtain ⟨gy, hgy⟩ : ∃ t, y' - y = t := ⟨_, rfl⟩
  obtain ⟨bx, hbx⟩ : ∃ t, u' - x' = t := ⟨_, rfl⟩
  obtain ⟨bz, hbz⟩ : ∃ t, v' - y' = t := ⟨_, rfl⟩
  have g1 : (m + n) * gx = n * (ax - bx) := by rw [← hax, ← hgx, ← hbx]; grind
  have g2 : (m + n) * gy = n * (ay - bz) := by rw [← hay, ← hgy, ← hbz]; grind
  have hc : crs x y u v x' y' = ax * gy - ay * gx := by unfold crs; rw [hax, hay, hgx, hgy]
  have he : crs x' y' u' v' x y = -(bx * gy - bz * gx) := by unfold crs; rw [hbx, hbz, ← hgx, ← hgy]; grind
  have hce : (m + n) * (ax * gy - ay * gx) = -(n * (ax * bz - ay * bx)) := by
    rw [show (m + n) * (ax * gy - ay * gx) = ax * ((m + n) * gy) - ay * ((m + n) * gx) by grind, g1, g2]; grind
  have hee : (m + n) * (-(bx * gy - bz * gx)) = n * (ax * bz - ay * bx) := by
    rw [show (m + n) * (-(bx * gy - bz * gx)) = bz * ((m + n) * gx) - bx * ((m + n) * gy) by grind, g1, g2]; grind
  by_cases h0 : ax * gy - ay * gx = 0
  · have hab : ax * bz - ay * bx = 0 := by
      rw [h0, Int.mul_zero] at hce
      have := Int.mul_eq_zero.1 (show n * (ax * bz - ay * bx) = 0 by omega)
      omega
    rw [hab, Int.mul_zero] at hee
    have he0 : crs x' y' u' v' x y = 0 := by
      rw [he]
      have := Int.mul_eq_zero.1 hee
      omega
    have hc0 : crs x y u v x' y' = 0 := hc.trans h0
    have hd0 : crs x y u v u' v' = 0 := by
      rw [hc0] at hcd
      have := Int.mul_eq_zero.1 (show n * crs x y u v u' v' = 0 by omega)
      omega
    have hf0 : crs x' y' u' v' u v = 0 := by
      rw [he0] at hef
      have := Int.mul_eq_zero.1 (show n * crs x' y' u' v' u v = 0 by omega)
      omega
    have fin : onB x y u v x' y' = true ∨ onB x' y' u' v' x y = true ∨ onB x' y' u' v' u v = true := by
      have s1 := sq_nonneg ax
      have s2 := sq_nonneg ay
      by_cases hL : ax * ax + ay * ay = 0
      · have z1 : ax = 0 := by
          have := Int.mul_eq_zero.1 (show ax * ax = 0 by omega)
          omega
        have z2 : ay = 0 := by
          have := Int.mul_eq_zero.1 (show ay * ay = 0 by omega)
          omega
        subst z1 z2
        refine .inr (.inl (onB_mk he0 ?_ ?_))
        · refine prod_sq (L := m + n) (s := -n) (t := m) (a := -bx) (by omega) ?_ ?_ (Int.mul_nonpos_of_nonpos_of_nonneg (by omega) (by omega))
          · rw [show x - x' = -gx by omega]; grind
          · rw [show x - u' = -(gx + bx) by omega]; grind
        · refine prod_sq (L := m + n) (s := -n) (t := m) (a := -bz) (by omega) ?_ ?_ (Int.mul_nonpos_of_nonpos_of_nonneg (by omega) (by omega))
          · rw [show y - y' = -gy by omega]; grind
          · rw [show y - v' = -(gy + bz) by omega]; grind
      · obtain ⟨L, hLe⟩ : ∃ L, ax * ax + ay * ay = L := ⟨_, rfl⟩
        obtain ⟨γ, hγ⟩ : ∃ t, ax * gx + ay * gy = t := ⟨_, rfl⟩
        obtain ⟨β, hβ⟩ : ∃ t, ax * bx + ay * bz = t := ⟨_, rfl⟩
        have hLp : 0 < L := by omega
        have k1 : L * gx = γ * ax := by rw [← hLe, ← hγ]; grind
        have k2 : L * gy = γ * ay := by rw [← hLe, ← hγ]; grind
        have k3 : L * bx = β * ax := by rw [← hLe, ← hβ]; grind
        have k4 : L * bz = β * ay := by rw [← hLe, ← hβ]; grind
        have k5 : (m + n) * γ = n * (L - β) := by
          rw [← hLe, ← hγ, ← hβ, show (m + n) * (ax * gx + ay * gy) = ax * ((m + n) * gx) + ay * ((m + n) * gy) by grind, g1, g2]; grind
        have k6 : n * (L - γ - β) = m * γ := by grind
        clear s1 s2 hLe hγ hβ hL hab h0 hce hee hcd hef
        by_cases q1 : γ < 0
        · refine .inr (.inl (onB_mk he0 ?_ ?_))
          · refine prod_sq (L := L) (s := -γ) (t := -(γ + β)) (a := ax) hLp (by rw [show x - x' = -gx by omega]; grind) (by rw [show x - u' = -(gx + bx) by omega]; grind) ?_
            have q2 : 0 < γ + β := by
              by_cases q : 0 < γ + β
              · exact q
              · have h1 := Int.mul_nonneg (show 0 ≤ n by omega) (show 0 ≤ L - γ - β by omega)
                have h2 := Int.mul_neg_of_pos_of_neg hm q1
                omega
            exact Int.mul_nonpos_of_nonneg_of_nonpos (by omega) (by omega)
          · refine prod_sq (L := L) (s := -γ) (t := -(γ + β)) (a := ay) hLp (by rw [show y - y' = -gy by omega]; grind) (by rw [show y - v' = -(gy + bz) by omega]; grind) ?_
            have q2 : 0 < γ + β := by
              by_cases q : 0 < γ + β
              · exact q
              · have h1 := Int.mul_nonneg (show 0 ≤ n by omega) (show 0 ≤ L - γ - β by omega)
                have h2 := Int.mul_neg_of_pos_of_neg hm q1
                omega
            exact Int.mul_nonpos_of_nonneg_of_nonpos (by omega) (by omega)
        · by_cases q3 : γ ≤ L
          · refine .inl (onB_mk hc0 ?_ ?_)
            · exact prod_sq (L := L) (s := γ) (t := γ - L) (a := ax) hLp (by rw [hgx]; exact k1) (by rw [show x' - u = gx - ax by omega]; grind) (Int.mul_nonpos_of_nonneg_of_nonpos (by omega) (by omega))
            · exact prod_sq (L := L) (s := γ) (t := γ - L) (a := ay) hLp (by rw [hgy]; exact k2) (by rw [show y' - v = gy - ay by omega]; grind) (Int.mul_nonpos_of_nonneg_of_nonpos (by omega) (by omega))
          · have q4 : 0 ≤ L - γ - β := by
              by_cases q : 0 ≤ L - γ - β
              · exact q
              · have h1 := Int.mul_neg_of_pos_of_neg hn (show L - γ - β < 0 by omega)
                have h2 := Int.mul_nonneg (show 0 ≤ m by omega) (show 0 ≤ γ by omega)
                omega
            refine .inr (.inr (onB_mk hf0 ?_ ?_))
            · exact prod_sq (L := L) (s := L - γ) (t := L - γ - β) (a := ax) hLp (by rw [show u - x' = ax - gx by omega]; grind) (by rw [show u - u' = ax - gx - bx by omega]; grind) (Int.mul_nonpos_of_nonpos_of_nonneg (by omega) q4)
            · exact prod_sq (L := L) (s := L - γ) (t := L - γ - β) (a := ay) hLp (by rw [show v - y' = ay - gy by omega]; grind) (by rw [show v - v' = ay - gy - bz by omega]; grind) (Int.mul_nonpos_of_nonpos_of_nonneg (by omega) q4)
    unfold wcB
    rcases fin with h | h | h <;> simp [h]
  · have hce0 : crs x y u v x' y' ≠ 0 := by rw [hc]; exact h0
    have hee0 : crs x' y' u' v' x y ≠ 0 := by
      rw [he]
      intro h
      rw [h, Int.mul_zero] at hee
      rw [← hee] at hce
      have := Int.mul_eq_zero.1 (show (m + n) * (ax * gy - ay * gx) = 0 by omega)
      omega
    unfold wcB
    rw [decide_eq_true (sgn_opp hm hn hcd hce0), decide_eq_true (sgn_opp hm hn hef hee0)]
    simp
theorem wc_zero {x y u v c x' y' u' v' c' : Int} (hm : moveB x y u v c = true) (hm' : moveB x' y' u' v' c' = true) (h : (apM x y u v x' y' u' v').1 = 0) : wcB x y u v x' y' u' v' = true := by
  unfold apM ap at h
  split at h
  · simp only at h
    have s1 := sq_nonneg (x - x')
    have s2 := sq_nonneg (y - y')
    have z1 := Int.mul_eq_zero.1 (show (x - x') * (x - x') = 0 by omega)
    have z2 := Int.mul_eq_zero.1 (show (y - y') * (y - y') = 0 by omega)
    have e1 : x' = x := by omega
    have e2 : y' = y := by omega
    subst e1 e2
    have : onB x' y' u v x' y' = true := onB_mk (by unfold crs; grind) (by rw [Int.sub_self, Int.zero_mul]; omega) (by rw [Int.sub_self, Int.zero_mul]; omega)
    unfold wcB
    simp [this]
  · split at h
    · simp only at h
      rw [show x - x' + (u - u' - (x - x')) = u - u' by omega, show y - y' + (v - v' - (y - y')) = v - v' by omega] at h
      have s1 := sq_nonneg (u - u')
      have s2 := sq_nonneg (v - v')
      have z1 := Int.mul_eq_zero.1 (show (u - u') * (u - u') = 0 by omega)
      have z2 := Int.mul_eq_zero.1 (show (v - v') * (v - v') = 0 by omega)
      have e1 : u' = u := by omega
      have e2 : v' = v := by omega
      subst e1 e2
      have : onB x y u' v' u' v' = true := onB_mk (by unfold crs; grind) (by rw [Int.sub_self, Int.mul_zero]; omega) (by rw [Int.sub_self, Int.mul_zero]; omega)
      unfold wcB
      simp [this]
    · rename_i hd hs
      simp only at h
      obtain ⟨px, hpx⟩ : ∃ t, x - x' = t := ⟨_, rfl⟩
      obtain ⟨py, hpy⟩ : ∃ t, y - y' = t := ⟨_, rfl⟩
      obtain ⟨vx, hvx⟩ : ∃ t, u - u' - px = t := ⟨_, rfl⟩
      obtain ⟨vy, hvy⟩ : ∃ t, v - v' - py = t := ⟨_, rfl⟩
      rw [hpx, hpy, hvx, hvy] at h hs hd
      obtain ⟨dot, hdot⟩ : ∃ t, px * vx + py * vy = t := ⟨_, rfl⟩
      obtain ⟨sz, hsz⟩ : ∃ t, vx * vx + vy * vy = t := ⟨_, rfl⟩
      rw [hdot] at hs hd
      rw [hsz] at h hs
      obtain ⟨g, hg, l1, l2⟩ := low_mul (a := (px * vy - py * vx) * (px * vy - py * vx)) (b := sz) (by omega)
      rw [h, Int.zero_mul] at l1
      have z := Int.mul_eq_zero.1 l1.symm
      have hcr : px * vy - py * vx = 0 := by omega
      refine cross_core (m := sz + dot) (n := -dot) (by omega) (by omega) ?_ ?_
      · have e : sz * px - dot * vx = 0 := by
          rw [← hsz, ← hdot, show (vx * vx + vy * vy) * px - (px * vx + py * vy) * vx = vy * (px * vy - py * vx) by grind, hcr, Int.mul_zero]
        grind
      · have e : sz * py - dot * vy = 0 := by
          rw [← hsz, ← hdot, show (vx * vx + vy * vy) * py - (px * vx + py * vy) * vy = -(vx * (px * vy - py * vx)) by grind, hcr, Int.mul_zero]; rfl
        grind
/-- What stands against the least fraction so far. -/
def ClM (D : Nat → Nat → Int × Int) (s : CSt) (i k : Nat) : Prop := lessB (D i k).1 (D i k).2 s.2.1 s.2.2 = false
theorem less_not {a b c d e f : Int} (hb : 0 < b) (hd : 0 < d) (hf : 0 < f) (h1 : lessB a b c d = false) (h2 : lessB e f c d = true) : lessB a b e f = false := by
  unfold lessB at *
  rw [decide_eq_false_iff_not] at *
  rw [decide_eq_true_iff] at h2
  intro h3
  refine h1 ?_
  have a1 := Int.mul_lt_mul_of_pos_right h3 hd
  have a2 := Int.mul_lt_mul_of_pos_right h2 hb
  have a3 : a * d * f < c * b * f := by
    have b1 : a * f * d = a * d * f := by grind
    have b2 : e * b * d = e * d * b := by grind
    have b3 : c * f * b = c * b * f := by grind
    omega
  exact Int.lt_of_mul_lt_mul_right a3 (by omega)
theorem less_self (a b : Int) : lessB a b a b = false := by
  unfold lessB; simp
theorem clStep_new {D : Nat → Nat → Int × Int} (s : CSt) (a b : Nat) : ClM D (clStep D s a b) a b := by
  unfold clStep
  split
  · exact less_self _ _
  · rename_i hl
    rw [Bool.not_eq_true] at hl
    exact hl
section
variable {D : Nat → Nat → Int × Int} {n : Nat} (hD : ∀ i k, i < n → k < n → 1 ≤ (D i k).2)
include hD
theorem clStep_keep {s : CSt} (hg : clGood D n s) {a b i k : Nat} (ha : a < n) (hb : b < n) (hi : i < n) (hk : k < n) (h : ClM D s i k) : ClM D (clStep D s a b) i k := by
  unfold clStep
  split
  · rename_i hl
    have := hD _ _ hg.2.1 hg.2.2
    rw [← hg.1] at this
    exact less_not (by have := hD i k hi hk; omega) (by omega) (show 0 < (D a b).2 by have := hD a b ha hb; omega) h hl
  · exact h
theorem clIn_keep {s : CSt} (hg : clGood D n s) {a i k : Nat} (ha : a < n) (hi : i < n) (hk : k < n) (h : ClM D s i k) : ∀ j, a + 1 + j ≤ n → ClM D (clIn D a s j) i k
  | 0, _ => h
  | j + 1, hj => clStep_keep hD (clIn_good hg ha j (by omega)) ha (by omega) hi hk (clIn_keep hg ha hi hk h j (by omega))
theorem clIn_new {s : CSt} (hg : clGood D n s) {a : Nat} (ha : a < n) : ∀ j, a + 1 + j ≤ n → ∀ t, t < j → ClM D (clIn D a s j) a (a + 1 + t)
  | 0, _, t, ht => absurd ht (by omega)
  | j + 1, hj, t, ht => by
    by_cases e : t = j
    · subst e
      exact clStep_new _ _ _
    · exact clStep_keep hD (clIn_good hg ha j (by omega)) ha (by omega) ha (by omega) (clIn_new hg ha j (by omega) t (by omega))
theorem clOut_min (hn : 2 ≤ n) : ∀ a, a ≤ n → ∀ i k, i < a → i < k → k < n → ClM D (clOut D n a) i k
  | 0, _, i, k, hi, _, _ => absurd hi (by omega)
  | a + 1, ha, i, k, hi, hik, hk => by
    by_cases e : i = a
    · subst e
      have := clIn_new hD (clOut_good hn i (by omega)) (show i < n by omega) (n - (i + 1)) (by omega) (k - (i + 1)) (by omega)
      rw [show i + 1 + (k - (i + 1)) = k by omega] at this
      exact this
    · exact clIn_keep hD (clOut_good hn a (by omega)) (show a < n by omega) (by omega) hk (clOut_min hn a (by omega) i k (by omega) hik hk) _ (by omega)
end
theorem clStep_ord {D : Nat → Nat → Int × Int} {s : CSt} (h : s.1.1 < s.1.2) {a b : Nat} (hab : a < b) : (clStep D s a b).1.1 < (clStep D s a b).1.2 := by
  unfold clStep
  split
  · exact hab
  · exact h
theorem clIn_ord {D : Nat → Nat → Int × Int} {s : CSt} (h : s.1.1 < s.1.2) (a : Nat) : ∀ j, (clIn D a s j).1.1 < (clIn D a s j).1.2
  | 0 => h
  | j + 1 => clStep_ord (clIn_ord h a j) (by omega)
theorem clOut_ord (D : Nat → Nat → Int × Int) (n : Nat) : ∀ a, (clOut D n a).1.1 < (clOut D n a).1.2
  | 0 => by show 0 < 1; omega
  | a + 1 => clIn_ord (clOut_ord D n a) a _
/-- The list of close pairs begins so. -/
theorem cpIn_more (S : Nat → Nat → Bool) (a : Nat) (L : List (Nat × Nat)) (j : Nat) : ∀ t, ∃ T, cpIn S a L (j + t) = cpIn S a L j ++ T
  | 0 => ⟨[], by simp⟩
  | t + 1 => by
    obtain ⟨T, hT⟩ := cpIn_more S a L j t
    have e : cpIn S a L (j + (t + 1)) = cpStep S a (a + 1 + (j + t)) (cpIn S a L (j + t)) := rfl
    rw [e, hT]
    unfold cpStep
    split
    · exact ⟨T, rfl⟩
    · exact ⟨T ++ [(a, a + 1 + (j + t))], by rw [List.append_assoc]⟩
theorem cpIn_base (S : Nat → Nat → Bool) (a : Nat) (L : List (Nat × Nat)) (j : Nat) : ∃ T, cpIn S a L j = L ++ T := by
  obtain ⟨T, h⟩ := cpIn_more S a L 0 j
  rw [Nat.zero_add] at h
  exact ⟨T, h⟩
theorem cpOut_more (S : Nat → Nat → Bool) (n a : Nat) : ∀ t, ∃ T, cpOut S n (a + t) = cpOut S n a ++ T
  | 0 => ⟨[], by simp⟩
  | t + 1 => by
    obtain ⟨T, hT⟩ := cpOut_more S n a t
    obtain ⟨T', hT'⟩ := cpIn_base S (a + t) (cpOut S n (a + t)) (n - (a + t + 1))
    have e : cpOut S n (a + (t + 1)) = cpIn S (a + t) (cpOut S n (a + t)) (n - (a + t + 1)) := rfl
    rw [e, hT', hT]
    exact ⟨T ++ T', by rw [List.append_assoc]⟩
theorem cp_next {S : Nat → Nat → Bool} {n a j : Nat} (ha : a < n) (hj : a + 1 + j < n) (hS : S a (a + 1 + j) = false) :
    (cpIn S a (cpOut S n a) j).length < (cpOut S n n).length ∧ (cpOut S n n).getD (cpIn S a (cpOut S n a) j).length (0, 0) = (a, a + 1 + j) := by
  obtain ⟨T, hT⟩ := cpOut_more S n (a + 1) (n - (a + 1))
  rw [show a + 1 + (n - (a + 1)) = n by omega] at hT
  obtain ⟨T', hT'⟩ := cpIn_more S a (cpOut S n a) (j + 1) (n - (a + 1) - (j + 1))
  rw [show j + 1 + (n - (a + 1) - (j + 1)) = n - (a + 1) by omega] at hT'
  have e : cpOut S n (a + 1) = cpIn S a (cpOut S n a) (n - (a + 1)) := rfl
  have e2 : cpIn S a (cpOut S n a) (j + 1) = cpIn S a (cpOut S n a) j ++ [(a, a + 1 + j)] := by
    show cpStep S a (a + 1 + j) (cpIn S a (cpOut S n a) j) = _
    unfold cpStep
    rw [hS]; rfl
  rw [hT, e, hT', e2]
  constructor
  · simp
  · rw [List.getD_eq_getElem?_getD, List.append_assoc, List.append_assoc, List.getElem?_append_right (Nat.le_refl _), Nat.sub_self]; rfl
end Go.Proofs.Ytljdhicmcmppgaa
namespace Go.Proofs.Ytljdhicmcmppgaa
open Go.RowKit

theorem tg_two {a b c : Nat → Int} (h1 : tgMM a b = true) (h2 : tgMM a c = true) : tgMM b c = true := by
  unfold tgMM at *
  obtain ⟨⟨_, h3⟩, h4⟩ := togB_iff.1 h1
  obtain ⟨⟨_, h5⟩, h6⟩ := togB_iff.1 h2
  exact togB_iff.2 ⟨⟨h3, h5⟩, h4.symm.trans h6⟩
structure CmF (N : Nat) (M : Nat → Nat → Int) (fi se : Nat) (tp bp : Int) : Prop where
  n2 : 2 ≤ N
  n12 : N ≤ 12
  ord : fi < se
  eq1 : (mmD M fi se).1 = tp
  eq2 : (mmD M fi se).2 = bp
  rng : DBd (tp, bp)
  all : ∀ i k, i < N → k < N → tgMM (M i) (M k) = true
  bd : ∀ i k, i < N → k < N → DBd (mmD M i k)
  least : ∀ i k, i < k → k < N → lessB (mmD M i k).1 (mmD M i k).2 tp bp = false
theorem cm_facts (N : Nat) (M : Nat → Nat → Int) : ∃ (fi se : Nat) (tp bp : Int), cmV N M = .tuple #[.int .i64 (fi : Int), .int .i64 (se : Int), .bool (tgL N M)] ∧ loaV N M = .tuple #[.int .i64 tp, .int .i64 bp, .bool (tgL N M)] ∧ (tgL N M = true → CmF N M fi se tp bp) := by
  cases h : tgL N M with
  | false =>
    refine ⟨0, 0, 0, 0, ?_, ?_, fun h => by simp at h⟩
    · unfold cmV; rw [if_neg (by rw [h]; simp)]; rfl
    · unfold loaV; rw [if_neg (by rw [h]; simp)]
  | true =>
    obtain ⟨⟨n2, n12⟩, htg, hmv⟩ := tgL_iff h
    refine ⟨(clOut (mmD M) N N).1.1, (clOut (mmD M) N N).1.2, (clOut (mmD M) N N).2.1, (clOut (mmD M) N N).2.2, ?_, ?_, fun _ => ?_⟩
    · unfold cmV; rw [if_pos h]
    · unfold loaV; rw [if_pos h]
    · have hg := clOut_good (D := mmD M) n2 N (Nat.le_refl _)
      have hbd : ∀ i k, i < N → k < N → DBd (mmD M i k) := fun i k hi hk => mmD_bd hmv hi hk
      refine ⟨n2, n12, clOut_ord _ _ _, by rw [hg.1], by rw [hg.1], ?_, fun i k hi hk => tg_two (htg i hi) (htg k hk), hbd, fun i k hik hk => ?_⟩
      · have := hbd _ _ hg.2.1 hg.2.2
        rw [← hg.1] at this
        exact this
      · exact clOut_min (D := mmD M) (fun i k hi hk => (hbd i k hi hk).2.1) n2 N (Nat.le_refl _) i k (by omega) hik hk
structure CvF (N : Nat) (M : Nat → Nat → Int) (d : Int) : Prop where
  n12 : N ≤ 12
  eq : cvL N M d = cpOut (mmS M d) N N
  all : ∀ i k, i < N → k < N → saOk (M i 0) (M i 1) (M i 2) (M i 3) (M i 4) (M k 0) (M k 1) (M k 2) (M k 3) (M k 4) d = true
theorem cv_facts {N : Nat} {M : Nat → Nat → Int} {d : Int} (h : cvOk N M d = true) : CvF N M d := by
  have h0 := h
  unfold cvOk at h0
  rw [Bool.and_eq_true] at h0
  obtain ⟨⟨_, n12⟩, htg, _⟩ := tgL_iff h0.1
  refine ⟨n12, by unfold cvL; rw [if_pos h], fun i k hi hk => ?_⟩
  unfold saOk
  rw [h0.2, Bool.and_true]
  exact tg_two (htg i hi) (htg k hk)
theorem prF_at {L : List (Nat × Nat)} {i a b : Nat} (h : L.getD i (0, 0) = (a, b)) : prF L i 0 = (a : Int) ∧ prF L i 1 = (b : Int) := by
  unfold prF
  rw [h]
  exact ⟨rfl, rfl⟩
end Go.Proofs.Ytljdhicmcmppgaa
