/- Words and contracts, part 4. -/
import Derived.Test.YtbfhfjpfjkdcfaaGreatDoorRows
import Derived.Shelf.Strings.Builder1
import Derived.Laws.Externs
import Derived.Deep.RegionHeld3
import Derived.Lib.AppendIntMem
import Derived.Laws.Strings
import Derived.Test.YtbfhfjpfjkdcfaaGreatDoorZ3
namespace Go.Proofs.YtbfhfjpfjkdcfaaGreatDoor
open Go.RowKit Go.ChangeShapes Go.WideShapes Go.Sort Go.Proofs

set_option maxHeartbeats 1000000 in
set_option maxRecDepth 100000 in
theorem cc_used (b : Nat) (w : World) (h0 : w.cell? ⟨b, 0, none⟩ = some (.pointer (some ⟨b, 0, none⟩))) :
    Calls Tryz.prog 64 #[.pointer (some ⟨b, 0, none⟩)] w fun e w' => e = .returned (.tuple #[]) ∧ w' = w := by
  have X : (Tryz.prog.info? 72).map (·.size) = some 2 := by kernel_rfl
  obtain ⟨j, hj, _⟩ := Option.map_eq_some_iff.1 X
  go_enter Tryz.func64, Tryz.ntmps64
  go_wp2
  rw [Lib.run_neq_ptr_same w _ Tryz.underlying70 hj]
  go_wp2
  go_end0
  exact ⟨rfl, rfl⟩
set_option maxHeartbeats 1000000 in
set_option maxRecDepth 100000 in
theorem cc_fresh (b : Nat) (w : World) (h0 : w.cell? ⟨b, 0, none⟩ = some (.pointer none)) (hsh : w.shape? b = some (72, 2)) (hfz : w.frozen? ⟨b, 0, none⟩ = false) :
    Calls Tryz.prog 64 #[.pointer (some ⟨b, 0, none⟩)] w fun e w' => e = .returned (.tuple #[]) ∧ w' = w.setCell ⟨b, 0, none⟩ (.pointer (some ⟨b, 0, none⟩)) := by
  have X : (Tryz.prog.info? 72).map (·.size) = some 2 := by kernel_rfl
  obtain ⟨j, hj, hjs⟩ := Option.map_eq_some_iff.1 X
  go_enter Tryz.func64, Tryz.ntmps64
  go_wp2
  rw [Lib.run_to_unsafe w ⟨b, 0, none⟩ Tryz.underlying70 Tryz.underlying109 hj (by rw [hjs]; decide) hsh (Nat.zero_lt_succ 1)]
  simp only [Result.andThen]
  rw [Oper.upon_value]
  go_wp2
  rw [run_callFunc_extern Tryz.func87 (by kernel_rfl) (by kernel_rfl) (by kernel_rfl) (e := Extern.AbiNoEscape.same) (by kernel_rfl)]
  rw [Lib.run_noEscape]
  simp only [Result.andThen]
  rw [Oper.upon_value]
  go_wp2
  rw [Lib.run_from_unsafe w ⟨b, 0, none⟩ Tryz.underlying109 Tryz.underlying70 hj hsh (by kernel_rfl)]
  simp only [Result.andThen]
  rw [Oper.upon_value]
  go_wp2
  go_end0
  exact ⟨rfl, rfl⟩
theorem cc_any (B b : Nat) (bs : List Value) (w : World) (h : Lib.IsBuilder 72 5 B b bs w) :
    Calls Tryz.prog 64 #[.pointer (some ⟨b, 0, none⟩)] w fun e w' => e = .returned (.tuple #[]) ∧ (Lib.BuilderAt 72 5 B b (.pointer (some ⟨b, 0, none⟩)) bs w' ∧ Below B w w') := by
  rcases h with h | h
  · refine (cc_fresh b w h.cell0 h.shape h.frozen0).mono ?_
    rintro e w' ⟨rfl, rfl⟩
    exact ⟨rfl, h.used _, (Below.refl B w).setCell (p := ⟨b, 0, none⟩) h.1 _⟩
  · refine (cc_used b w h.cell0).mono ?_
    rintro e w' ⟨rfl, rfl⟩
    exact ⟨rfl, h, Below.refl B _⟩
set_option maxHeartbeats 2000000 in
set_option maxRecDepth 100000 in
theorem writeStr (B b : Nat) (bs : List Value) (s : ByteArray) (w : World) (h : Lib.IsBuilder 72 5 B b bs w) (hlen : bs.length + s.size ≤ 1000000) (hBw : B ≤ w.heap.size) :
    Calls Tryz.prog 46 #[.pointer (some ⟨b, 0, none⟩), .string s] w fun e w' => e = .returned (.tuple #[.int .i64 s.size, .nilIface]) ∧ (Lib.IsBuilder 72 5 B b (bs ++ Lib.strCells s) w' ∧ Below B w w') := by
  obtain ⟨i0, hi, hz0, hz1, hz2⟩ := info_parts (show (Tryz.prog.info? 5).map (fun i => (i.zero, i.size, i.bytes)) = some (some (.int .u8 0), 1, 1) by kernel_rfl)
  go_enter Tryz.func46, Tryz.ntmps46
  go_wp2_with (go_at_call 64; refine (cc_any B b bs _ h).mono ?_)
  rintro e w1 ⟨rfl, h1, hb1⟩
  obtain ⟨hB, v, hbk, hown, hne⟩ := h1
  have c0 : w1.cell? ⟨b, 0, none⟩ = some (.pointer (some ⟨b, 0, none⟩)) := by rw [Lib.cell_of_heap hbk]; rfl
  have c1 : w1.cell? ⟨b, 1, none⟩ = some v := by rw [Lib.cell_of_heap hbk]; rfl
  go_wp2_with (at_builtin; refine Lib.wpList_append_own_string _ rfl _ _ 22 9 rfl B 5 i0 Tryz.underlying22 Tryz.underlying9 hi hz0 hz1 hz2 _ _ _ rfl hown s rfl ?c3 ?c4 ?c5 ?_)
  case c3 => unfold maxLen; omega
  case c4 => omega
  case c5 => have := hb1.size; omega
  intro v' w2 hown' hgrow _
  have hlt : b < w1.heap.size := by
    rcases Nat.lt_or_ge b w1.heap.size with h' | h'
    · exact h'
    · simp [Array.getElem?_eq_none h'] at hbk
  have hb2 : w2.heap[b]? = some (.cells #[.pointer (some ⟨b, 0, none⟩), v] 72 (0, 0)) := by
    rw [hgrow.block b hlt (fun e => hne e.symm)]
    exact hbk
  have d0 : w2.cell? ⟨b, 0, none⟩ = some (.pointer (some ⟨b, 0, none⟩)) := by rw [Lib.cell_of_heap hb2]; rfl
  have d1 : w2.cell? ⟨b, 1, none⟩ = some v := by rw [Lib.cell_of_heap hb2]; rfl
  have f1 : w2.frozen? ⟨b, 1, none⟩ = false := Lib.frozen_of_heap hb2 1
  obtain ⟨ao, n', cap, rfl⟩ : ∃ ao n' cap, v' = .slice ao n' cap := by
    rcases hown'.2 with ⟨hv, _⟩ | ⟨g, cap, cur, hv, _⟩
    · exact ⟨_, _, _, hv⟩
    · exact ⟨_, _, _, hv⟩
  go_wp2
  go_ret2
  refine ⟨rfl, ?_, ?_⟩
  · exact .inr (Lib.BuilderAt.put (T := 72) (e := 5) hB hb2 (bs' := bs ++ Lib.strCells s) (by simpa [Lib.strCells_length] using hown') (by decide))
  · exact (hb1.grown hgrow (by have := hb1.size; omega) (fun k hk => (hown.lt k hk).1)).setCell (p := ⟨b, 1, none⟩) hB _
end Go.Proofs.YtbfhfjpfjkdcfaaGreatDoor
namespace Go.Proofs.YtbfhfjpfjkdcfaaGreatDoor
open Go.RowKit Go.ChangeShapes Go.WideShapes Go.Sort Go.Proofs

theorem tab_up {P : Program} {n : String} {k : IntKind} {zs : List Int} {w w' : World} (h : Lib.TabIs P w n k zs) (hb : Below w.heap.size w w') : Lib.TabIs P w' n k zs := by
  unfold Lib.TabIs at h ⊢
  unfold World.var? at h ⊢
  cases hg : P.globalNamed n with
  | none => rw [hg] at h; cases h
  | some g =>
    rw [hg] at h
    simp only [Option.bind_some] at h ⊢
    by_cases hl : g < w.heap.size
    · rw [hb.block g hl]; exact h
    · rw [Array.getElem?_eq_none (by omega)] at h; cases h
theorem below_growN (w : World) (k : Nat) (os : Array Obj) : Below w.heap.size w (grow (w.drewN k) os) :=
  ⟨by show (w.drewN k).os = _; induction k <;> simp_all [World.drewN], by show (w.drewN k).tape = _; induction k <;> simp_all [World.drewN], by show (w.drewN k).output = _; induction k <;> simp_all [World.drewN], Lib.size_grow w k os, fun i hi => Lib.heap_grow_old w k os i hi⟩
theorem bld_below {T e : TypeId} {B b : Nat} {bs : List Value} {W W' : World} (h : Lib.IsBuilder T e B b bs W) (hb : Below W.heap.size W W') : Lib.IsBuilder T e B b bs W' := by
  have one : ∀ p, Lib.BuilderAt T e B b p bs W → Lib.BuilderAt T e B b p bs W' := fun p h => by
    have hlt := h.lt
    obtain ⟨hB, v, hv, hown, hne⟩ := h
    exact ⟨hB, v, (hb.block b hlt).trans hv, hown.kept (row := none) ⟨hb.os, hb.tape, hb.output, hb.size, fun k hk _ => hb.block k hk⟩ (Classical.em _), hne⟩
  exact h.elim (fun x => .inl (one _ x)) (fun x => .inr (one _ x))
/-- The table that Itoa reads. -/
def TabW (w : World) : Prop := Lib.TabIs Tryz.prog w "internal/strconv.uint64pow10" .u64 Lib.pow10Tab
theorem TabW.up {w w' : World} (h : TabW w) (hb : Below w.heap.size w w') : TabW w' := tab_up h hb
theorem itoa_s (n : Nat) (hn : n ≤ 999) (w : World) (ht : TabW w) : Calls Tryz.prog 86 #[.int .i64 (n : Int)] w (Ans w (.string (bS (Lib.decDigits n)))) :=
  (Tryz.strconv_Itoa (n : Int) (by omega) (by omega) w ht).mono fun e w' ⟨he, k, os, hw⟩ => by
    subst he hw
    exact ⟨by rw [Lib.itoa_nonneg]; rfl, below_growN w k os⟩

set_option maxRecDepth 100000 in
set_option maxHeartbeats 4000000 in
theorem stepsText_s (n : Nat) (hn : n ≤ 1280) (w : World) (ht : TabW w) : Calls Tryz.prog 63 #[.int .i64 (n : Int)] w (Ans w (.string (bS (stpL n)))) := by
  have hq : (n : Int).tdiv 8 = ((n / 8 : Nat) : Int) := by rw [Int.tdiv_eq_ediv_of_nonneg (by omega)]; rfl
  have hm : (n : Int).tmod 8 = ((n % 8 : Nat) : Int) := by rw [Int.tmod_eq_emod_of_nonneg (by omega)]; rfl
  have hq2 : (n : Int) / 8 = ((n / 8 : Nat) : Int) := rfl
  have hm2 : (n : Int) % 8 = ((n % 8 : Nat) : Int) := rfl
  have hst : stpL n = if n % 8 = 0 then Lib.decDigits (n / 8) else Lib.decDigits (n / 8) ++ 43 :: Lib.decDigits (n % 8) := rfl
  have hq1 : n / 8 ≤ 160 := by omega
  have hm1 : n % 8 < 8 := by omega
  generalize n / 8 = q at hst hq hq2 hq1
  generalize n % 8 = r at hst hm hm2 hm1
  have A := Lib.hid (fun (W : World) (hW : Below w.heap.size w W) => itoa_s q (by omega) W (ht.up hW))
  have B := Lib.hid (fun (W : World) (hW : Below w.heap.size w W) => itoa_s r (by omega) W (ht.up hW))
  have lq := dec_len (n := q) (by omega)
  have lr := dec_len (n := r) (by omega)
  have hqw : IntKind.i64.wrap (q : Int) = (q : Int) := IntWalk.i64_in _ (by omega)
  have hrw : IntKind.i64.wrap (r : Int) = (r : Int) := IntWalk.i64_in _ (by omega)
  by_cases h0 : r = 0
  · subst h0
    have HD := Lib.hid (show bS (stpL n) = bS (Lib.decDigits q) from congrArg bS (by rw [hst, if_pos rfl]))
    clear hst hq1 hm1 lq lr hrw hn
    go_enter Tryz.func63, Tryz.ntmps63
    go_wp2_with (go_at_call 86; (refine (A.out _ (by (repeat (first | with_reducible exact Below.refl _ _ | with_reducible assumption | with_reducible refine up_alloc ?_ _ | with_reducible refine up_drew ?_ | with_reducible refine up_drewN ?_ _ | (with_reducible refine up_set ?_ ?hset _; case hset => first | (simp; done) | (simp; omega) | omega) | with_reducible refine up_trans ?_ (by with_reducible assumption))))).mono ?_); rintro e w1 ⟨rfl, hb1⟩)
    go_ret
    rw [HD.out]
    exact ⟨rfl, by (repeat (first | with_reducible exact Below.refl _ _ | with_reducible assumption | with_reducible refine up_alloc ?_ _ | with_reducible refine up_drew ?_ | with_reducible refine up_drewN ?_ _ | (with_reducible refine up_set ?_ ?hset _; case hset => first | (simp; done) | (simp; omega) | omega) | with_reducible refine up_trans ?_ (by with_reducible assumption)))⟩
  · have jr : 0 < (r : Int) := by omega
    have HD := Lib.hid (show bS (stpL n) = bS (Lib.decDigits q ++ 43 :: Lib.decDigits r) from congrArg bS (by rw [hst, if_neg h0]))
    have h1 : ∀ w : World, (Op.stringOp .add ⟨#[43]⟩ (bS (Lib.decDigits r))).run Tryz.prog w = .ok (.string (bS (43 :: Lib.decDigits r))) w := add_bS [43] (Lib.decDigits r) (by simp; omega)
    have h2 : ∀ w : World, (Op.stringOp .add (bS (Lib.decDigits q)) (bS (43 :: Lib.decDigits r))).run Tryz.prog w = .ok (.string (bS (Lib.decDigits q ++ 43 :: Lib.decDigits r))) w := add_bS (Lib.decDigits q) (43 :: Lib.decDigits r) (by simp; omega)
    clear hst hq1 hm1 lq lr h0 hn
    go_enter Tryz.func63, Tryz.ntmps63
    go_wp2_with (go_at_call 86; first | ((with_reducible show Calls Tryz.prog _ #[.int .i64 (q : Int)] _ _); refine (A.out _ (by (repeat (first | with_reducible exact Below.refl _ _ | with_reducible assumption | with_reducible refine up_alloc ?_ _ | with_reducible refine up_drew ?_ | with_reducible refine up_drewN ?_ _ | (with_reducible refine up_set ?_ ?hset _; case hset => first | (simp; done) | (simp; omega) | omega) | with_reducible refine up_trans ?_ (by with_reducible assumption))))).mono ?_; rintro e w1 ⟨rfl, hb1⟩) | ((with_reducible show Calls Tryz.prog _ #[.int .i64 (r : Int)] _ _); refine (B.out _ (by (repeat (first | with_reducible exact Below.refl _ _ | with_reducible assumption | with_reducible refine up_alloc ?_ _ | with_reducible refine up_drew ?_ | with_reducible refine up_drewN ?_ _ | (with_reducible refine up_set ?_ ?hset _; case hset => first | (simp; done) | (simp; omega) | omega) | with_reducible refine up_trans ?_ (by with_reducible assumption))))).mono ?_; rintro e w2 ⟨rfl, hb2⟩))
    go_ret
    rw [HD.out]
    exact ⟨rfl, by (repeat (first | with_reducible exact Below.refl _ _ | with_reducible assumption | with_reducible refine up_alloc ?_ _ | with_reducible refine up_drew ?_ | with_reducible refine up_drewN ?_ _ | (with_reducible refine up_set ?_ ?hset _; case hset => first | (simp; done) | (simp; omega) | omega) | with_reducible refine up_trans ?_ (by with_reducible assumption)))⟩
set_option maxRecDepth 100000 in
set_option maxHeartbeats 4000000 in
theorem spotText_s (x y : Nat) (hx : x ≤ 1280) (hy : y ≤ 672) (w : World) (ht : TabW w) : Calls Tryz.prog 45 #[.agg #[.int .i64 (x : Int), .int .i64 (y : Int)]] w (Ans w (.tuple #[.string (bS (spL x y)), .bool true])) := by
  have G := Lib.hid (show ∀ W, Calls Tryz.prog 35 #[.agg #[.int .i64 (x : Int), .int .i64 (y : Int)]] W (Ans W (.bool true)) from fun W => by
    have := isSpot_any (x : Int) (y : Int) W
    rw [show spotB (x : Int) (y : Int) = true from spotB_iff.2 ⟨⟨by omega, by omega⟩, by omega, by omega⟩] at this
    exact this)
  have A := Lib.hid (fun (W : World) (hW : Below w.heap.size w W) => stepsText_s x hx W (ht.up hW))
  have B := Lib.hid (fun (W : World) (hW : Below w.heap.size w W) => stepsText_s y (show y ≤ 1280 by omega) W (ht.up hW))
  have lx := stp_len hx
  have ly := stp_len (show y ≤ 1280 by omega)
  have HD := Lib.hid (show bS (spL x y) = bS (stpL x ++ 44 :: stpL y) from rfl)
  have h1 : ∀ w : World, (Op.stringOp .add (bS (stpL x)) ⟨#[44]⟩).run Tryz.prog w = .ok (.string (bS (stpL x ++ [44]))) w := add_bS (stpL x) [44] (by simp; omega)
  have h2 : ∀ w : World, (Op.stringOp .add (bS (stpL x ++ [44])) (bS (stpL y))).run Tryz.prog w = .ok (.string (bS (stpL x ++ [44] ++ stpL y))) w := add_bS (stpL x ++ [44]) (stpL y) (by simp; omega)
  clear lx ly hx hy
  go_enter Tryz.func45, Tryz.ntmps45
  go_wp2_with fail
  have hnew := cell_new2 w (.int .i64 (x : Int)) (.int .i64 (y : Int)) 42
  generalize hW : World.alloc _ _ = V at *
  have hb0 : Below w.heap.size w V := by subst hW; (repeat (first | with_reducible exact Below.refl _ _ | with_reducible assumption | with_reducible refine up_alloc ?_ _ | with_reducible refine up_drew ?_ | with_reducible refine up_drewN ?_ _ | (with_reducible refine up_set ?_ ?hset _; case hset => first | (simp; done) | (simp; omega) | omega) | with_reducible refine up_trans ?_ (by with_reducible assumption)))
  clear hW
  go_wp2_with (go_at_call 35; refine (G.out _).mono ?_; rintro e W ⟨rfl, hbV⟩)
  have g0 := up_keep (show Below V.heap.size V W from (by (repeat (first | with_reducible exact Below.refl _ _ | with_reducible assumption | with_reducible refine up_alloc ?_ _ | with_reducible refine up_drew ?_ | with_reducible refine up_drewN ?_ _ | (with_reducible refine up_set ?_ ?hset _; case hset => first | (simp; done) | (simp; omega) | omega) | with_reducible refine up_trans ?_ (by with_reducible assumption))))) hnew.1
  have g1 := up_keep (show Below V.heap.size V W from (by (repeat (first | with_reducible exact Below.refl _ _ | with_reducible assumption | with_reducible refine up_alloc ?_ _ | with_reducible refine up_drew ?_ | with_reducible refine up_drewN ?_ _ | (with_reducible refine up_set ?_ ?hset _; case hset => first | (simp; done) | (simp; omega) | omega) | with_reducible refine up_trans ?_ (by with_reducible assumption))))) hnew.2
  have hbW : Below w.heap.size w W := by (repeat (first | with_reducible exact Below.refl _ _ | with_reducible assumption | with_reducible refine up_alloc ?_ _ | with_reducible refine up_drew ?_ | with_reducible refine up_drewN ?_ _ | (with_reducible refine up_set ?_ ?hset _; case hset => first | (simp; done) | (simp; omega) | omega) | with_reducible refine up_trans ?_ (by with_reducible assumption)))
  clear hnew hb0 hbV
  go_region_held3 (fun w' => w'.cell? ⟨w.heap.size, 0, none⟩ = some (.int .i64 (x : Int)) ∧ w'.cell? ⟨w.heap.size, 1, none⟩ = some (.int .i64 (y : Int)))
    (first | exact ⟨by assumption, by assumption⟩ | go_keep) (first
    | (go_at_call 63; (with_reducible refine (A.out _ (by (repeat (first | with_reducible exact Below.refl _ _ | with_reducible assumption | with_reducible refine up_alloc ?_ _ | with_reducible refine up_drew ?_ | with_reducible refine up_drewN ?_ _ | (with_reducible refine up_set ?_ ?hset _; case hset => first | (simp; done) | (simp; omega) | omega) | with_reducible refine up_trans ?_ (by with_reducible assumption))))).mono ?_); rintro e wa ⟨rfl, hba⟩; have y0 := up_keep (show Below W.heap.size W wa from (by (repeat (first | with_reducible exact Below.refl _ _ | with_reducible assumption | with_reducible refine up_alloc ?_ _ | with_reducible refine up_drew ?_ | with_reducible refine up_drewN ?_ _ | (with_reducible refine up_set ?_ ?hset _; case hset => first | (simp; done) | (simp; omega) | omega) | with_reducible refine up_trans ?_ (by with_reducible assumption))))) g0; have y1 := up_keep (show Below W.heap.size W wa from (by (repeat (first | with_reducible exact Below.refl _ _ | with_reducible assumption | with_reducible refine up_alloc ?_ _ | with_reducible refine up_drew ?_ | with_reducible refine up_drewN ?_ _ | (with_reducible refine up_set ?_ ?hset _; case hset => first | (simp; done) | (simp; omega) | omega) | with_reducible refine up_trans ?_ (by with_reducible assumption))))) g1)
    | (go_at_call 63; (with_reducible refine (B.out _ (by (repeat (first | with_reducible exact Below.refl _ _ | with_reducible assumption | with_reducible refine up_alloc ?_ _ | with_reducible refine up_drew ?_ | with_reducible refine up_drewN ?_ _ | (with_reducible refine up_set ?_ ?hset _; case hset => first | (simp; done) | (simp; omega) | omega) | with_reducible refine up_trans ?_ (by with_reducible assumption))))).mono ?_); rintro e wb ⟨rfl, hbb⟩; have y0 := up_keep (show Below W.heap.size W wb from (by (repeat (first | with_reducible exact Below.refl _ _ | with_reducible assumption | with_reducible refine up_alloc ?_ _ | with_reducible refine up_drew ?_ | with_reducible refine up_drewN ?_ _ | (with_reducible refine up_set ?_ ?hset _; case hset => first | (simp; done) | (simp; omega) | omega) | with_reducible refine up_trans ?_ (by with_reducible assumption))))) g0; have y1 := up_keep (show Below W.heap.size W wb from (by (repeat (first | with_reducible exact Below.refl _ _ | with_reducible assumption | with_reducible refine up_alloc ?_ _ | with_reducible refine up_drew ?_ | with_reducible refine up_drewN ?_ _ | (with_reducible refine up_set ?_ ?hset _; case hset => first | (simp; done) | (simp; omega) | omega) | with_reducible refine up_trans ?_ (by with_reducible assumption))))) g1)
    | fail)
  all_goals
    go_wp2_with fail
    go_ret2
    rw [HD.out]
    exact ⟨rfl, by (repeat (first | with_reducible exact Below.refl _ _ | with_reducible assumption | with_reducible refine up_alloc ?_ _ | with_reducible refine up_drew ?_ | with_reducible refine up_drewN ?_ _ | (with_reducible refine up_set ?_ ?hset _; case hset => first | (simp; done) | (simp; omega) | omega) | with_reducible refine up_trans ?_ (by with_reducible assumption)))⟩
end Go.Proofs.YtbfhfjpfjkdcfaaGreatDoor
namespace Go.Proofs.YtbfhfjpfjkdcfaaGreatDoor

/-! ### Where a byte stands first -/
def cut1 (b : UInt8) : List UInt8 → Option (List UInt8 × List UInt8)
  | [] => none
  | c :: l => if c = b then some ([], l) else (cut1 b l).map fun x => (c :: x.1, x.2)
theorem cut1_none {b : UInt8} : ∀ {l : List UInt8}, cut1 b l = none ↔ b ∉ l
  | [] => by simp [cut1]
  | c :: l => by
    by_cases h : c = b
    · simp [cut1, h]
    · simp [cut1, h, cut1_none (l := l), Ne.symm h]
theorem cut1_some {b : UInt8} : ∀ {l p q : List UInt8}, cut1 b l = some (p, q) ↔ l = p ++ b :: q ∧ b ∉ p
  | [], p, q => by simp [cut1]
  | c :: l, p, q => by
    by_cases h : c = b
    · subst h
      simp only [cut1, if_true, Option.some.injEq, Prod.mk.injEq]
      constructor
      · rintro ⟨rfl, rfl⟩; simp
      · rintro ⟨h1, h2⟩
        cases p with
        | nil => simpa using h1
        | cons d p => exact absurd (by simp at h1; simp [h1.1]) h2
    · simp only [cut1, if_neg h, Option.map_eq_some_iff, Prod.mk.injEq]
      constructor
      · rintro ⟨⟨p', q'⟩, h1, rfl, rfl⟩
        obtain ⟨h2, h3⟩ := cut1_some.1 h1
        exact ⟨by simp [h2], by simp [h3, Ne.symm h]⟩
      · rintro ⟨h1, h2⟩
        cases p with
        | nil => simp at h1; exact absurd h1.1 h
        | cons d p =>
          simp at h1
          obtain ⟨rfl, h4⟩ := h1
          exact ⟨(p, q), cut1_some.2 ⟨h4, by simp at h2; exact h2.2⟩, rfl, rfl⟩

/-! ### The pieces between a byte -/
def splitL (b : UInt8) : List UInt8 → List (List UInt8)
  | [] => [[]]
  | c :: l => if c = b then [] :: splitL b l else match splitL b l with
    | [] => [[c]]
    | h :: t => (c :: h) :: t
theorem splitL_cons (b c : UInt8) (l : List UInt8) : splitL b (c :: l) = if c = b then [] :: splitL b l else match splitL b l with
    | [] => [[c]]
    | h :: t => (c :: h) :: t := rfl
theorem splitL_ne (b : UInt8) : ∀ l : List UInt8, splitL b l ≠ []
  | [] => by simp [splitL]
  | c :: l => by
    unfold splitL
    split
    · simp
    · split <;> simp
theorem splitL_hit {b : UInt8} {q : List UInt8} : ∀ {p : List UInt8}, b ∉ p → splitL b (p ++ b :: q) = p :: splitL b q
  | [], _ => by simp [splitL]
  | c :: p, h => by
    simp at h
    have := splitL_hit (q := q) (p := p) h.2
    rw [List.cons_append, splitL_cons, if_neg (Ne.symm h.1), this]
theorem splitL_miss {b : UInt8} : ∀ {l : List UInt8}, b ∉ l → splitL b l = [l]
  | [], _ => rfl
  | c :: l, h => by
    simp at h
    unfold splitL
    rw [if_neg (Ne.symm h.1), splitL_miss h.2]
theorem splitL_end (b : UInt8) : ∀ l : List UInt8, splitL b (l ++ [b]) = splitL b l ++ [[]]
  | [] => by simp [splitL]
  | c :: l => by
    have ih := splitL_end b l
    rw [List.cons_append, splitL_cons, splitL_cons]
    by_cases h : c = b
    · rw [if_pos h, if_pos h, ih]; rfl
    · rw [if_neg h, if_neg h, ih]
      cases hs : splitL b l with
      | nil => exact absurd hs (splitL_ne b l)
      | cons x t => rfl
theorem splitL_join (b : UInt8) : ∀ l : List UInt8, ((splitL b l).map (· ++ [b])).flatten = l ++ [b]
  | [] => by simp [splitL]
  | c :: l => by
    have ih := splitL_join b l
    unfold splitL
    by_cases h : c = b
    · rw [if_pos h]; simp [ih, h]
    · rw [if_neg h]
      cases hs : splitL b l with
      | nil => exact absurd hs (splitL_ne b l)
      | cons x t => rw [hs] at ih; simp at ih ⊢; exact ih

/-! ### Decimal numbers -/
def isDig (c : UInt8) : Bool := decide (48 ≤ c.toNat) && decide (c.toNat ≤ 57)
def valL (l : List UInt8) : Nat := l.foldl (fun n c => 10 * n + (c.toNat - 48)) 0
def natB (m : Nat) (l : List UInt8) : Option Nat := if (1 ≤ l.length ∧ l.length ≤ m) ∧ ¬ (1 < l.length ∧ l.head? = some 48) ∧ l.all isDig = true then some (valL l) else none
theorem valL_snoc (l : List UInt8) (c : UInt8) : valL (l ++ [c]) = 10 * valL l + (c.toNat - 48) := by simp [valL]
theorem ofNat_toNat (c : UInt8) : UInt8.ofNat c.toNat = c := by simp
theorem dig_of (r : Nat) (h : r < 10) : (UInt8.ofNat (48 + r)).toNat = 48 + r := by
  rw [UInt8.toNat_ofNat', Nat.mod_eq_of_lt (by omega)]
theorem valL_lt : ∀ (k : Nat) (l : List UInt8), l.length = k → l.all isDig = true → valL l < 10 ^ k
  | 0, l, hk, _ => by
    have : l = [] := List.length_eq_zero_iff.1 hk
    subst this; simp [valL]
  | k + 1, l, hk, hd => by
    rcases List.eq_nil_or_concat l with rfl | ⟨t, c, rfl⟩
    · simp at hk
    · simp only [List.concat_eq_append] at hk hd ⊢
      rw [valL_snoc]
      simp [isDig] at hk hd
      have := valL_lt k t hk (by simp [List.all_eq_true, isDig]; exact hd.1)
      rw [Nat.pow_succ]
      omega
theorem dec_val : ∀ (k : Nat) (l : List UInt8), l.length = k → 1 ≤ k → ¬ (1 < l.length ∧ l.head? = some 48) → l.all isDig = true → l = Lib.decDigits (valL l)
  | 0, _, _, h, _, _ => by omega
  | k + 1, l, hk, _, hz, hd => by
    rcases List.eq_nil_or_concat l with rfl | ⟨t, c, rfl⟩
    · simp at hk
    · simp only [List.concat_eq_append] at hk hd hz ⊢
      have hc : 48 ≤ c.toNat ∧ c.toNat ≤ 57 := by simp [isDig] at hd; exact hd.2
      have ht : t.all isDig = true := by simp [isDig] at hd; simp [List.all_eq_true, isDig]; exact hd.1
      have hkt : t.length = k := by simpa using hk
      rw [valL_snoc]
      have hcc : UInt8.ofNat (48 + (c.toNat - 48)) = c := by rw [show 48 + (c.toNat - 48) = c.toNat by omega, ofNat_toNat]
      by_cases h0 : k = 0
      · have : t = [] := List.length_eq_zero_iff.1 (by omega)
        subst this
        rw [show 10 * valL [] + (c.toNat - 48) = c.toNat - 48 by simp [valL], Lib.decDigits_one (by omega), hcc]
        rfl
      · cases t with
        | nil => simp at hkt; omega
        | cons d t =>
          have hz' : ¬ (1 < (d :: t).length ∧ (d :: t).head? = some 48) := by
            intro h; exact hz ⟨by simp, by simpa using h.2⟩
          have hd48 : d ≠ 48 := by
            intro h; subst h; exact hz ⟨by simp, by simp⟩
          have ih := dec_val k (d :: t) hkt (by omega) hz' ht
          have hpos : 1 ≤ valL (d :: t) := by
            rcases Nat.eq_zero_or_pos (valL (d :: t)) with h | h
            · rw [h, Lib.decDigits_one (by omega)] at ih
              simp at ih
              exact absurd ih.1 hd48
            · exact h
          rw [dec_step (n := 10 * valL (d :: t) + (c.toNat - 48)) (by omega), show (10 * valL (d :: t) + (c.toNat - 48)) / 10 = valL (d :: t) by omega, show (10 * valL (d :: t) + (c.toNat - 48)) % 10 = c.toNat - 48 by omega, hcc, ← ih]
theorem natB_dec {m n : Nat} {l : List UInt8} (h : natB m l = some n) : l = Lib.decDigits n ∧ n < 10 ^ m := by
  unfold natB at h
  split at h
  · rename_i hc
    obtain ⟨⟨h1, h2⟩, h3, h4⟩ := hc
    obtain rfl := Option.some.inj h
    exact ⟨dec_val _ l rfl h1 h3 h4, Nat.lt_of_lt_of_le (valL_lt _ l rfl h4) (Nat.pow_le_pow_right (by omega) h2)⟩
  · cases h
/-- A number's digits are digits, without a nought ahead, and give the number. -/
theorem dec_ok (n : Nat) : (Lib.decDigits n).all isDig = true ∧ valL (Lib.decDigits n) = n ∧ 1 ≤ (Lib.decDigits n).length ∧ ((Lib.decDigits n).head? = some 48 → n = 0) := by
  induction n using Nat.strongRecOn with
  | ind n ih =>
    by_cases h : n < 10
    · rw [Lib.decDigits_one h]
      have := dig_of n h
      generalize UInt8.ofNat (48 + n) = d at this
      refine ⟨by simp [isDig, this]; omega, by simp [valL, this], by simp, fun h0 => ?_⟩
      simp at h0
      subst h0
      have h2 : (48 : UInt8).toNat = 48 := rfl
      omega
    · rw [dec_step h]
      obtain ⟨i1, i2, i3, i4⟩ := ih (n / 10) (by omega)
      have := dig_of (n % 10) (by omega)
      generalize UInt8.ofNat (48 + n % 10) = d at this
      refine ⟨?_, ?_, by simp, fun h0 => ?_⟩
      · simp only [List.all_append, i1, Bool.true_and]
        simp [isDig, this]; omega
      · rw [valL_snoc, i2, this]; omega
      · have : (Lib.decDigits (n / 10)).head? = some 48 := by
          cases hd : Lib.decDigits (n / 10) with
          | nil => rw [hd] at i3; simp at i3
          | cons a t => rw [hd] at h0; simpa using h0
        have := i4 this
        omega
theorem natB_of {m n : Nat} (hn : n ≤ 999) (hm : 3 ≤ m) : natB m (Lib.decDigits n) = some n := by
  obtain ⟨h1, h2, h3, h4⟩ := dec_ok n
  have h5 := dec_len hn
  unfold natB
  rw [if_pos ⟨⟨h3, by omega⟩, fun ⟨a, b⟩ => by
    have h0 := h4 b
    subst h0
    rw [Lib.decDigits_one (by omega)] at a
    simp at a, h1⟩, h2]
theorem dig_ne {l : List UInt8} (h : l.all isDig = true) {b : UInt8} (hb : isDig b = false) : b ∉ l := fun hm => by
  have := List.all_eq_true.1 h b hm
  rw [hb] at this
  cases this
theorem dec_ne (n : Nat) {b : UInt8} (hb : isDig b = false) : b ∉ Lib.decDigits n := dig_ne (dec_ok n).1 hb

/-! ### Steps, spots -/
def rdL (m : Nat) (l : List UInt8) : Option Nat := match cut1 43 l with
  | none => (natB m l).map (8 * ·)
  | some (p, q) => match natB m p, natB m q with
    | some n, some k => if 1 ≤ k ∧ k ≤ 7 then some (8 * n + k) else none
    | _, _ => none
theorem rdL_stp {m n : Nat} {l : List UInt8} (h : rdL m l = some n) : l = stpL n ∧ n < 8 * 10 ^ m := by
  unfold rdL at h
  cases hc : cut1 43 l with
  | none =>
    rw [hc] at h
    obtain ⟨k, hk, rfl⟩ := Option.map_eq_some_iff.1 h
    obtain ⟨h1, h2⟩ := natB_dec hk
    refine ⟨?_, by omega⟩
    unfold stpL
    rw [if_pos (by omega), show 8 * k / 8 = k by omega]
    exact h1
  | some x =>
    obtain ⟨p, q⟩ := x
    rw [hc] at h
    obtain ⟨h3, _⟩ := cut1_some.1 hc
    simp only at h
    cases hp : natB m p with
    | none => rw [hp] at h; simp at h
    | some a =>
      cases hq : natB m q with
      | none => rw [hp, hq] at h; simp at h
      | some k =>
        rw [hp, hq] at h
        simp only at h
        split at h
        · rename_i hk
          obtain rfl := Option.some.inj h
          obtain ⟨a1, a2⟩ := natB_dec hp
          obtain ⟨q1, _⟩ := natB_dec hq
          refine ⟨?_, by omega⟩
          unfold stpL
          rw [if_neg (by omega), show (8 * a + k) / 8 = a by omega, show (8 * a + k) % 8 = k by omega, ← a1, ← q1]
          exact h3
        · cases h
theorem rdL_of {m n : Nat} (hn : n ≤ 1280) (hm : 3 ≤ m) : rdL m (stpL n) = some n := by
  have hd : isDig 43 = false := by decide
  unfold rdL stpL
  by_cases h : n % 8 = 0
  · rw [if_pos h, cut1_none.2 (dec_ne _ hd)]
    simp only
    rw [natB_of (by omega) hm]
    simp; omega
  · rw [if_neg h, cut1_some.2 ⟨rfl, dec_ne _ hd⟩]
    simp only
    rw [natB_of (by omega) hm, natB_of (by omega) hm]
    simp only
    rw [if_pos (by omega)]
    congr 1; omega
theorem stp_ne {n : Nat} {b : UInt8} (hb : isDig b = false) (h43 : b ≠ 43) : b ∉ stpL n := by
  unfold stpL
  split
  · exact dec_ne _ hb
  · simp only [List.mem_append, List.mem_cons, not_or]
    exact ⟨dec_ne _ hb, h43, dec_ne _ hb⟩
def spP (m : Nat) (l : List UInt8) : Option (Nat × Nat) := match cut1 44 l with
  | none => none
  | some (p, q) => match rdL m p, rdL m q with
    | some x, some y => if x ≤ 1280 ∧ y ≤ 672 then some (x, y) else none
    | _, _ => none
theorem spP_iff {m x y : Nat} {l : List UInt8} (hm : 3 ≤ m) : spP m l = some (x, y) ↔ (x ≤ 1280 ∧ y ≤ 672) ∧ l = spL x y := by
  have hd : (44 : UInt8) ∉ stpL x := stp_ne (by decide) (by decide)
  constructor
  · intro h
    unfold spP at h
    cases hc : cut1 44 l with
    | none => rw [hc] at h; cases h
    | some z =>
      obtain ⟨p, q⟩ := z
      rw [hc] at h
      obtain ⟨h3, _⟩ := cut1_some.1 hc
      simp only at h
      cases hp : rdL m p with
      | none => rw [hp] at h; simp at h
      | some a =>
        cases hq : rdL m q with
        | none => rw [hp, hq] at h; simp at h
        | some k =>
          rw [hp, hq] at h
          simp only at h
          split at h
          · rename_i hk
            obtain ⟨rfl, rfl⟩ := Prod.mk.inj (Option.some.inj h)
            refine ⟨hk, ?_⟩
            unfold spL
            rw [← (rdL_stp hp).1, ← (rdL_stp hq).1]
            exact h3
          · cases h
  · rintro ⟨⟨hx, hy⟩, rfl⟩
    unfold spP spL
    rw [cut1_some.2 ⟨rfl, hd⟩]
    simp only
    rw [rdL_of hx hm, rdL_of (by omega) hm]
    simp [hx, hy]
theorem spP_same {m m' : Nat} (hm : 3 ≤ m) (hm' : 3 ≤ m') (l : List UInt8) : spP m l = spP m' l := by
  cases h : spP m l with
  | some z => exact ((spP_iff (x := z.1) (y := z.2) hm').2 ((spP_iff hm).1 h)).symm
  | none =>
    cases h' : spP m' l with
    | some z => rw [(spP_iff (x := z.1) (y := z.2) hm).2 ((spP_iff hm').1 h')] at h; cases h
    | none => rfl

/-! ### Charts -/
def xO (o : List (Nat × Nat)) (i : Nat) : Int := ((o.getD i (0, 0)).1 : Int)
def yO (o : List (Nat × Nat)) (i : Nat) : Int := ((o.getD i (0, 0)).2 : Int)
def goodO (o : List (Nat × Nat)) : Bool := chartB o.length (xO o) (yO o)
def textO (o : List (Nat × Nat)) : List UInt8 := txL (xO o) (yO o) o.length
def allP (m : Nat) : List (List UInt8) → Option (List (Nat × Nat))
  | [] => some []
  | l :: t => match spP m l with
    | none => none
    | some a => (allP m t).map (a :: ·)
def specR (l : List UInt8) : Option (List (Nat × Nat)) := if 13 < (splitL 10 l).length then none else match allP 6 (splitL 10 l).dropLast with
  | none => none
  | some o => if goodO o = true ∧ textO o = l then some o else none
def linesR (l : List UInt8) : Option (List (List UInt8)) := if l = [] then some [] else if l.getLast? = some 10 then some (splitL 10 l.dropLast) else none
def implR (l : List UInt8) : Option (List (Nat × Nat)) := match linesR l with
  | none => none
  | some ls => if 12 < ls.length then none else match allP 9 ls with
    | none => none
    | some o => if goodO o = true then some o else none
theorem allP_same {m m' : Nat} (hm : 3 ≤ m) (hm' : 3 ≤ m') : ∀ ls : List (List UInt8), allP m ls = allP m' ls
  | [] => rfl
  | l :: t => by unfold allP; rw [spP_same hm hm' l, allP_same hm hm' t]
theorem txL_cong {X Y X' Y' : Nat → Int} : ∀ {n : Nat}, (∀ i, i < n → X i = X' i) → (∀ i, i < n → Y i = Y' i) → txL X Y n = txL X' Y' n
  | 0, _, _ => rfl
  | n + 1, hx, hy => by
    unfold txL
    rw [txL_cong (n := n) (fun i hi => hx i (by omega)) (fun i hi => hy i (by omega)), hx n (by omega), hy n (by omega)]
theorem txL_front (X Y : Nat → Int) : ∀ n : Nat, txL X Y (n + 1) = spL (X 0).toNat (Y 0).toNat ++ [10] ++ txL (fun i => X (i + 1)) (fun i => Y (i + 1)) n
  | 0 => by simp [txL]
  | n + 1 => by
    have ih := txL_front X Y n
    rw [txL, ih, txL]
    simp
theorem textO_cons (a : Nat × Nat) (o : List (Nat × Nat)) : textO (a :: o) = spL a.1 a.2 ++ [10] ++ textO o := by
  unfold textO
  rw [List.length_cons, txL_front]
  congr 1
theorem textO_all {m : Nat} (hm : 3 ≤ m) : ∀ {ls : List (List UInt8)} {o : List (Nat × Nat)}, allP m ls = some o → textO o = (ls.map (· ++ [10])).flatten
  | [], o, h => by
    obtain rfl := Option.some.inj h
    rfl
  | l :: t, o, h => by
    unfold allP at h
    cases hs : spP m l with
    | none => rw [hs] at h; cases h
    | some a =>
      rw [hs] at h
      simp only at h
      obtain ⟨r, hr, rfl⟩ := Option.map_eq_some_iff.1 h
      rw [textO_cons, textO_all hm hr, ← ((spP_iff (x := a.1) (y := a.2) hm).1 hs).2]
      simp
theorem allP_len {m : Nat} : ∀ {ls : List (List UInt8)} {o : List (Nat × Nat)}, allP m ls = some o → o.length = ls.length
  | [], o, h => by
    obtain rfl := Option.some.inj h
    rfl
  | l :: t, o, h => by
    unfold allP at h
    cases hs : spP m l with
    | none => rw [hs] at h; cases h
    | some a =>
      rw [hs] at h
      simp only at h
      obtain ⟨r, hr, rfl⟩ := Option.map_eq_some_iff.1 h
      simp [allP_len hr]
theorem textO_end : ∀ o : List (Nat × Nat), textO o = [] ∨ (textO o).getLast? = some 10
  | [] => .inl rfl
  | a :: o => by
    rw [textO_cons]
    rcases textO_end o with h | h
    · right; rw [h]; simp
    · right
      rw [List.getLast?_append, h]; rfl
/-- BOTH SIDES' ANSWERS ARE ONE. -/
theorem specR_implR (l : List UInt8) : specR l = implR l := by
  unfold specR implR linesR
  by_cases h0 : l = []
  · subst h0
    rw [if_pos rfl]
    simp [splitL, allP, goodO, chartB, inB]
  · rw [if_neg h0]
    by_cases h1 : l.getLast? = some 10
    · rw [if_pos h1]
      obtain ⟨t, rfl⟩ : ∃ t, l = t ++ [10] := by
        rcases List.eq_nil_or_concat l with rfl | ⟨t, c, rfl⟩
        · exact absurd rfl h0
        · simp at h1; subst h1; exact ⟨t, by simp⟩
      simp only [List.dropLast_concat]
      rw [splitL_end]
      simp only [List.dropLast_concat, List.length_append, List.length_cons, List.length_nil]
      by_cases h2 : 12 < (splitL 10 t).length
      · rw [if_pos (by omega), if_pos h2]
      · rw [if_neg (by omega), if_neg h2, allP_same (m := 6) (m' := 9) (by omega) (by omega)]
        cases ha : allP 9 (splitL 10 t) with
        | none => rfl
        | some o =>
          simp only
          have : textO o = t ++ [10] := by rw [textO_all (by omega) ha, splitL_join]
          simp [this]
    · rw [if_neg h1]
      simp only
      split
      · rfl
      · cases ha : allP 6 (splitL 10 l).dropLast with
        | none => rfl
        | some o =>
          simp only
          rw [if_neg]
          rintro ⟨_, h3⟩
          rcases textO_end o with h | h
          · exact h0 (h3.symm.trans h)
          · rw [h3] at h; exact h1 h
end Go.Proofs.YtbfhfjpfjkdcfaaGreatDoor
namespace Go.Proofs.YtbfhfjpfjkdcfaaGreatDoor
open Go.RowKit Go.ChangeShapes Go.WideShapes Go.Sort

def natV (o : Option Nat) : Value := .tuple #[.int .i64 ((o.getD 0 : Nat) : Int), .bool o.isSome]
def rdV (o : Option Nat) : Int := match o with
  | some n => n
  | none => -1
theorem bS_get (l : List UInt8) (k : Nat) (c : UInt8) (h : l[k]? = some c) (hk : k < (bS l).size) : (bS l)[k]'hk = c := by
  have h2 : k < l.length := by rw [bS_size] at hk; exact hk
  rw [List.getElem?_eq_getElem h2] at h
  rw [← Option.some.inj h]
  rfl
theorem bS_list (l : List UInt8) : (bS l).toList = l := by
  rw [show (bS l).toList = (bS l).data.toList from ByteArray.toList_eq ..]
  rfl
theorem take_snoc (l : List UInt8) (k : Nat) (c : UInt8) (h : l[k]? = some c) : l.take (k + 1) = l.take k ++ [c] := by
  rw [List.take_add_one, h]; rfl
set_option maxRecDepth 100000 in
set_option maxHeartbeats 2000000 in
theorem natural_s (l : List UInt8) (w : World) (hl : l.length ≤ 1048576) : Calls Tryz.prog 78 #[.string (bS l)] w (Ans w (natV (natB 9 l))) := by
  have hN : natB 9 l = if (1 ≤ l.length ∧ l.length ≤ 9) ∧ ¬ (1 < l.length ∧ l.head? = some 48) ∧ l.all isDig = true then some (valL l) else none := rfl
  obtain ⟨n, hn⟩ : ∃ n, n = l.length := ⟨_, rfl⟩
  have hsz := bS_size l
  rw [← hn] at hsz hN hl
  have hno : ∀ w', Below w.heap.size w w' → natB 9 l = none → Ans w (natV (natB 9 l)) (.returned (.tuple #[.int .i64 0, .bool false])) w' := fun w' hb h => by rw [h]; exact ⟨rfl, hb⟩
  by_cases h0 : n = 0
  · have : l = [] := List.length_eq_zero_iff.1 (by omega)
    subst this
    have hE : (bS []).toList = [] := bS_list []
    have hE2 : (bS []).toList.isEmpty = true := by rw [hE]; rfl
    have HF := Lib.hid (show natB 9 [] = none by rw [hN, if_neg (by omega)])
    clear hN
    go_enter Tryz.func78, Tryz.ntmps78
    go_wp2_with fail
    go_ret2
    exact hno _ (Below.refl _ _) HF.out
  · have hl0 : l ≠ [] := fun h => by subst h; simp at hn; omega
    have hE : ¬ (bS l).toList = [] := by rw [bS_list]; exact hl0
    have hE2 : (bS l).toList.isEmpty = false := by rw [bS_list]; cases l with
      | nil => exact absurd rfl hl0
      | cons a t => rfl
    by_cases h9 : n ≤ 9
    · obtain ⟨c0, hc0⟩ : ∃ c, l[0]? = some c := ⟨l[0]'(by omega), List.getElem?_eq_getElem _⟩
      have hg0 : ∀ h, (bS l)[0]'h = c0 := fun h => bS_get l 0 c0 hc0 h
      have hhd : l.head? = some c0 := by rw [List.head?_eq_getElem?]; exact hc0
      by_cases hb : 1 < n ∧ c0 = 48
      · obtain ⟨j1, j2⟩ := hb
        subst j2
        have HF := Lib.hid (show natB 9 l = none by rw [hN, if_neg]; rintro ⟨_, h, _⟩; exact h ⟨j1, hhd⟩)
        clear hN hc0 hhd
        go_enter Tryz.func78, Tryz.ntmps78
        go_wp2_with fail
        go_ret2
        exact hno _ (Below.refl _ _) HF.out
      · have hN2 : natB 9 l = if l.all isDig = true then some (valL l) else none := by
          rw [hN, hhd]
          by_cases hd : l.all isDig = true
          · rw [if_pos hd, if_pos ⟨⟨by omega, h9⟩, fun ⟨a, b⟩ => hb ⟨a, Option.some.inj b⟩, hd⟩]
          · rw [if_neg hd, if_neg (fun h => hd h.2.2)]
        clear hN
        have hcase : (n = 1) ∨ (1 < (n : Int) ∧ ((c0.toNat : Int) == 48) = false) := by
          by_cases h1 : n = 1
          · exact .inl h1
          · refine .inr ⟨by omega, ?_⟩
            have : c0 ≠ 48 := fun h => hb ⟨by omega, h⟩
            have h48 : c0.toNat ≠ 48 := fun h => this (UInt8.toNat.inj h)
            simp; omega
        clear hb hc0 hhd
        have j9 : (n : Int) ≤ 9 := by omega
        have HX := Lib.hid hN2
        have HL := Lib.hid hn
        clear hN2 hn
        rcases hcase with j1 | ⟨j1, j2⟩
        · have j2 : (n : Int) ≤ 1 := by omega
          go_enter Tryz.func78, Tryz.ntmps78
          go_wp2_with fail
          go_loopw [4, 5] (fun a i wr => ∃ k : Nat, k ≤ n ∧ a = .int .i64 ((valL (l.take k) : Nat) : Int) ∧ i = .int .i64 k ∧ (l.take k).all isDig = true ∧ Below w.heap.size w wr) (fun _ i _ => n - (intOf i).toNat)
          case atStart => exact ⟨0, by omega, rfl, rfl, rfl, Below.refl _ _⟩
          case round =>
            obtain ⟨k, hk, rfl, rfl, ha, hb⟩ := hrel
            have hlen := HL.out
            by_cases hlt : k < n
            · obtain ⟨c, hc⟩ : ∃ c, l[k]? = some c := ⟨l[k]'(by omega), List.getElem?_eq_getElem _⟩
              have hgk : ∀ h, (bS l)[k]'h = c := fun h => bS_get l k c hc h
              have hv1 := valL_lt k (l.take k) (by rw [List.length_take]; omega) ha
              have hv2 : valL (l.take k) < 10 ^ 8 := Nat.lt_of_lt_of_le hv1 (Nat.pow_le_pow_right (by omega) (by omega))
              have hsn := take_snoc l k c hc
              have hva : valL (l.take (k + 1)) = 10 * valL (l.take k) + (c.toNat - 48) := by rw [hsn, valL_snoc]
              have hal : (l.take (k + 1)).all isDig = isDig c := by rw [hsn, List.all_append, ha]; simp
              have HVA := Lib.hid hva
              have HAL := Lib.hid hal
              have HA := Lib.hid ha
              have hmem : c ∈ l := List.mem_of_getElem? hc
              generalize valL (l.take k) = v at *
              clear hva hal ha hv1 hsn hc hlen
              by_cases hd : isDig c = true
              · have hd2 : 48 ≤ c.toNat ∧ c.toNat ≤ 57 := by simpa [isDig] using hd
                have d1 : 48 ≤ (c.toNat : Int) := by omega
                have d2 : (c.toNat : Int) ≤ 57 := by omega
                have HD := Lib.hid hd
                have HK := Lib.hid (show (10 * (v : Int) + ((c.toNat : Int) - 48)) = ((10 * v + (c.toNat - 48) : Nat) : Int) by omega)
                clear hd hd2 hmem
                go_wp2_with fail
                go_roundw
                case rel => exact ⟨k + 1, by omega, by rw [HVA.out, ← HK.out], by go_num, by rw [HAL.out]; exact HD.out, hb⟩
                case measure => simp [intOf]; omega
              · have HF := Lib.hid (show natB 9 l = none by rw [HX.out, if_neg]; intro h; exact hd (List.all_eq_true.1 h c hmem))
                have hd2 : (c.toNat : Int) < 48 ∨ (48 ≤ (c.toNat : Int) ∧ 57 < (c.toNat : Int)) := by
                  have : ¬ (48 ≤ c.toNat ∧ c.toNat ≤ 57) := fun h => hd (by simpa [isDig] using h)
                  omega
                clear hd hmem
                rcases hd2 with d1 | ⟨d1, d2⟩
                · go_wp2_with fail
                  go_ret2
                  exact hno _ hb HF.out
                · go_wp2_with fail
                  go_ret2
                  exact hno _ hb HF.out
            · have e : k = n := by omega
              have HF := Lib.hid (show natB 9 l = some (valL (l.take k)) by
                have ht : l.take k = l := by rw [List.take_of_length_le]; omega
                rw [HX.out, if_pos (by rw [← ht]; exact ha), ht])
              generalize valL (l.take k) = v at *
              clear ha hlen
              subst e
              go_wp2_with fail
              go_ret2
              rw [HF.out]
              exact ⟨rfl, hb⟩
        · go_enter Tryz.func78, Tryz.ntmps78
          go_wp2_with fail
          go_loopw [4, 5] (fun a i wr => ∃ k : Nat, k ≤ n ∧ a = .int .i64 ((valL (l.take k) : Nat) : Int) ∧ i = .int .i64 k ∧ (l.take k).all isDig = true ∧ Below w.heap.size w wr) (fun _ i _ => n - (intOf i).toNat)
          case atStart => exact ⟨0, by omega, rfl, rfl, rfl, Below.refl _ _⟩
          case round =>
            obtain ⟨k, hk, rfl, rfl, ha, hb⟩ := hrel
            have hlen := HL.out
            by_cases hlt : k < n
            · obtain ⟨c, hc⟩ : ∃ c, l[k]? = some c := ⟨l[k]'(by omega), List.getElem?_eq_getElem _⟩
              have hgk : ∀ h, (bS l)[k]'h = c := fun h => bS_get l k c hc h
              have hv1 := valL_lt k (l.take k) (by rw [List.length_take]; omega) ha
              have hv2 : valL (l.take k) < 10 ^ 8 := Nat.lt_of_lt_of_le hv1 (Nat.pow_le_pow_right (by omega) (by omega))
              have hsn := take_snoc l k c hc
              have hva : valL (l.take (k + 1)) = 10 * valL (l.take k) + (c.toNat - 48) := by rw [hsn, valL_snoc]
              have hal : (l.take (k + 1)).all isDig = isDig c := by rw [hsn, List.all_append, ha]; simp
              have HVA := Lib.hid hva
              have HAL := Lib.hid hal
              have HA := Lib.hid ha
              have hmem : c ∈ l := List.mem_of_getElem? hc
              generalize valL (l.take k) = v at *
              clear hva hal ha hv1 hsn hc hlen
              by_cases hd : isDig c = true
              · have hd2 : 48 ≤ c.toNat ∧ c.toNat ≤ 57 := by simpa [isDig] using hd
                have d1 : 48 ≤ (c.toNat : Int) := by omega
                have d2 : (c.toNat : Int) ≤ 57 := by omega
                have HD := Lib.hid hd
                have HK := Lib.hid (show (10 * (v : Int) + ((c.toNat : Int) - 48)) = ((10 * v + (c.toNat - 48) : Nat) : Int) by omega)
                clear hd hd2 hmem
                go_wp2_with fail
                go_roundw
                case rel => exact ⟨k + 1, by omega, by rw [HVA.out, ← HK.out], by go_num, by rw [HAL.out]; exact HD.out, hb⟩
                case measure => simp [intOf]; omega
              · have HF := Lib.hid (show natB 9 l = none by rw [HX.out, if_neg]; intro h; exact hd (List.all_eq_true.1 h c hmem))
                have hd2 : (c.toNat : Int) < 48 ∨ (48 ≤ (c.toNat : Int) ∧ 57 < (c.toNat : Int)) := by
                  have : ¬ (48 ≤ c.toNat ∧ c.toNat ≤ 57) := fun h => hd (by simpa [isDig] using h)
                  omega
                clear hd hmem
                rcases hd2 with d1 | ⟨d1, d2⟩
                · go_wp2_with fail
                  go_ret2
                  exact hno _ hb HF.out
                · go_wp2_with fail
                  go_ret2
                  exact hno _ hb HF.out
            · have e : k = n := by omega
              have HF := Lib.hid (show natB 9 l = some (valL (l.take k)) by
                have ht : l.take k = l := by rw [List.take_of_length_le]; omega
                rw [HX.out, if_pos (by rw [← ht]; exact ha), ht])
              generalize valL (l.take k) = v at *
              clear ha hlen
              subst e
              go_wp2_with fail
              go_ret2
              rw [HF.out]
              exact ⟨rfl, hb⟩
    · have j9 : 9 < (n : Int) := by omega
      have HF := Lib.hid (show natB 9 l = none by rw [hN, if_neg (by omega)])
      clear hN
      go_enter Tryz.func78, Tryz.ntmps78
      go_wp2_with fail
      go_ret2
      exact hno _ (Below.refl _ _) HF.out
set_option maxRecDepth 100000 in
set_option maxHeartbeats 1000000 in
theorem l1Read_s (l : List UInt8) (w : World) (hl : l.length ≤ 1048576) : Calls Tryz.prog 98 #[.string (bS l)] w (Ans w (.int .i64 (rdV (natB 6 l)))) := by
  have hN : natB 6 l = if (1 ≤ l.length ∧ l.length ≤ 6) ∧ ¬ (1 < l.length ∧ l.head? = some 48) ∧ l.all isDig = true then some (valL l) else none := rfl
  obtain ⟨n, hn⟩ : ∃ n, n = l.length := ⟨_, rfl⟩
  have hsz := bS_size l
  rw [← hn] at hsz hN hl
  have hno : ∀ w', Below w.heap.size w w' → natB 6 l = none → Ans w (.int .i64 (rdV (natB 6 l))) (.returned (.int .i64 (-1))) w' := fun w' hb h => by rw [h]; exact ⟨rfl, hb⟩
  by_cases h9 : 1 ≤ n ∧ n ≤ 6
  · have hin : inB (n : Int) 1 6 = true := inB_iff.2 ⟨by omega, by omega⟩
    have hin2 : inB ((bS l).size : Int) 1 6 = true := by rw [hsz]; exact hin
    obtain ⟨h0, h9⟩ := h9
    obtain ⟨c0, hc0⟩ : ∃ c, l[0]? = some c := ⟨l[0]'(by omega), List.getElem?_eq_getElem _⟩
    have hg0 : ∀ h, (bS l)[0]'h = c0 := fun h => bS_get l 0 c0 hc0 h
    have hhd : l.head? = some c0 := by rw [List.head?_eq_getElem?]; exact hc0
    have j0 : 0 < (n : Int) := by omega
    by_cases hb : 1 < n ∧ c0 = 48
    · obtain ⟨j1, j2⟩ := hb
      subst j2
      have HF := Lib.hid (show natB 6 l = none by rw [hN, if_neg]; rintro ⟨_, h, _⟩; exact h ⟨j1, hhd⟩)
      clear hN hc0 hhd hn
      go_enter Tryz.func98, Tryz.ntmps98
      go_wp2_with (go_at_call 49; refine (l1In_any _ _ _ _).mono ?_; rintro e w1 ⟨rfl, rfl⟩)
      go_ret
      exact hno _ (Below.refl _ _) HF.out
    · have hN2 : natB 6 l = if l.all isDig = true then some (valL l) else none := by
        rw [hN, hhd]
        by_cases hd : l.all isDig = true
        · rw [if_pos hd, if_pos ⟨⟨by omega, h9⟩, fun ⟨a, b⟩ => hb ⟨a, Option.some.inj b⟩, hd⟩]
        · rw [if_neg hd, if_neg (fun h => hd h.2.2)]
      clear hN
      have hcase : ((n : Int) ≤ 1 ∧ c0 = 48) ∨ ((c0.toNat : Int) == 48) = false := by
        by_cases h1 : c0 = 48
        · exact .inl ⟨by by_cases h2 : n ≤ 1 <;> first | omega | exact absurd ⟨by omega, h1⟩ hb, h1⟩
        · refine .inr ?_
          have h48 : c0.toNat ≠ 48 := fun h => h1 (UInt8.toNat.inj h)
          simp; omega
      clear hb hc0 hhd
      have j9 : (n : Int) ≤ 6 := by omega
      have HX := Lib.hid hN2
      have HL := Lib.hid hn
      clear hN2 hn
      rcases hcase with ⟨j1, j2⟩ | j2
      · subst j2
        go_enter Tryz.func98, Tryz.ntmps98
        go_wp2_with (go_at_call 49; refine (l1In_any _ _ _ _).mono ?_; rintro e w1 ⟨rfl, rfl⟩)
        go_loopw [3, 4] (fun a i wr => ∃ k : Nat, k ≤ n ∧ a = .int .i64 ((valL (l.take k) : Nat) : Int) ∧ i = .int .i64 k ∧ (l.take k).all isDig = true ∧ Below w.heap.size w wr) (fun _ i _ => n - (intOf i).toNat)
        case atStart => exact ⟨0, by omega, rfl, rfl, rfl, Below.refl _ _⟩
        case round =>
          obtain ⟨k, hk, rfl, rfl, ha, hb⟩ := hrel
          have hlen := HL.out
          by_cases hlt : k < n
          · obtain ⟨c, hc⟩ : ∃ c, l[k]? = some c := ⟨l[k]'(by omega), List.getElem?_eq_getElem _⟩
            have hgk : ∀ h, (bS l)[k]'h = c := fun h => bS_get l k c hc h
            have hv1 := valL_lt k (l.take k) (by rw [List.length_take]; omega) ha
            have hv2 : valL (l.take k) < 10 ^ 8 := Nat.lt_of_lt_of_le hv1 (Nat.pow_le_pow_right (by omega) (by omega))
            have hsn := take_snoc l k c hc
            have hva : valL (l.take (k + 1)) = 10 * valL (l.take k) + (c.toNat - 48) := by rw [hsn, valL_snoc]
            have hal : (l.take (k + 1)).all isDig = isDig c := by rw [hsn, List.all_append, ha]; simp
            have HVA := Lib.hid hva
            have HAL := Lib.hid hal
            have HA := Lib.hid ha
            have hmem : c ∈ l := List.mem_of_getElem? hc
            generalize valL (l.take k) = v at *
            clear hva hal ha hv1 hsn hc hlen
            by_cases hd : isDig c = true
            · have hd2 : 48 ≤ c.toNat ∧ c.toNat ≤ 57 := by simpa [isDig] using hd
              have d1 : 48 ≤ (c.toNat : Int) := by omega
              have d2 : (c.toNat : Int) ≤ 57 := by omega
              have HD := Lib.hid hd
              have HK := Lib.hid (show (10 * (v : Int) + ((c.toNat : Int) - 48)) = ((10 * v + (c.toNat - 48) : Nat) : Int) by omega)
              clear hd hd2 hmem
              go_wp2_with fail
              go_roundw
              case rel => exact ⟨k + 1, by omega, by rw [HVA.out, ← HK.out], by go_num, by rw [HAL.out]; exact HD.out, hb⟩
              case measure => simp [intOf]; omega
            · have HF := Lib.hid (show natB 6 l = none by rw [HX.out, if_neg]; intro h; exact hd (List.all_eq_true.1 h c hmem))
              have hd2 : (c.toNat : Int) < 48 ∨ (48 ≤ (c.toNat : Int) ∧ 57 < (c.toNat : Int)) := by
                have : ¬ (48 ≤ c.toNat ∧ c.toNat ≤ 57) := fun h => hd (by simpa [isDig] using h)
                omega
              clear hd hmem
              rcases hd2 with d1 | ⟨d1, d2⟩
              · go_wp2_with fail
                go_ret
                exact hno _ hb HF.out
              · go_wp2_with fail
                go_ret
                exact hno _ hb HF.out
          · have e : k = n := by omega
            have HF := Lib.hid (show natB 6 l = some (valL (l.take k)) by
              have ht : l.take k = l := by rw [List.take_of_length_le]; omega
              rw [HX.out, if_pos (by rw [← ht]; exact ha), ht])
            generalize valL (l.take k) = v at *
            clear ha hlen
            subst e
            go_wp2_with fail
            go_ret
            rw [HF.out]
            exact ⟨rfl, hb⟩
      · go_enter Tryz.func98, Tryz.ntmps98
        go_wp2_with (go_at_call 49; refine (l1In_any _ _ _ _).mono ?_; rintro e w1 ⟨rfl, rfl⟩)
        go_loopw [3, 4] (fun a i wr => ∃ k : Nat, k ≤ n ∧ a = .int .i64 ((valL (l.take k) : Nat) : Int) ∧ i = .int .i64 k ∧ (l.take k).all isDig = true ∧ Below w.heap.size w wr) (fun _ i _ => n - (intOf i).toNat)
        case atStart => exact ⟨0, by omega, rfl, rfl, rfl, Below.refl _ _⟩
        case round =>
          obtain ⟨k, hk, rfl, rfl, ha, hb⟩ := hrel
          have hlen := HL.out
          by_cases hlt : k < n
          · obtain ⟨c, hc⟩ : ∃ c, l[k]? = some c := ⟨l[k]'(by omega), List.getElem?_eq_getElem _⟩
            have hgk : ∀ h, (bS l)[k]'h = c := fun h => bS_get l k c hc h
            have hv1 := valL_lt k (l.take k) (by rw [List.length_take]; omega) ha
            have hv2 : valL (l.take k) < 10 ^ 8 := Nat.lt_of_lt_of_le hv1 (Nat.pow_le_pow_right (by omega) (by omega))
            have hsn := take_snoc l k c hc
            have hva : valL (l.take (k + 1)) = 10 * valL (l.take k) + (c.toNat - 48) := by rw [hsn, valL_snoc]
            have hal : (l.take (k + 1)).all isDig = isDig c := by rw [hsn, List.all_append, ha]; simp
            have HVA := Lib.hid hva
            have HAL := Lib.hid hal
            have HA := Lib.hid ha
            have hmem : c ∈ l := List.mem_of_getElem? hc
            generalize valL (l.take k) = v at *
            clear hva hal ha hv1 hsn hc hlen
            by_cases hd : isDig c = true
            · have hd2 : 48 ≤ c.toNat ∧ c.toNat ≤ 57 := by simpa [isDig] using hd
              have d1 : 48 ≤ (c.toNat : Int) := by omega
              have d2 : (c.toNat : Int) ≤ 57 := by omega
              have HD := Lib.hid hd
              have HK := Lib.hid (show (10 * (v : Int) + ((c.toNat : Int) - 48)) = ((10 * v + (c.toNat - 48) : Nat) : Int) by omega)
              clear hd hd2 hmem
              go_wp2_with fail
              go_roundw
              case rel => exact ⟨k + 1, by omega, by rw [HVA.out, ← HK.out], by go_num, by rw [HAL.out]; exact HD.out, hb⟩
              case measure => simp [intOf]; omega
            · have HF := Lib.hid (show natB 6 l = none by rw [HX.out, if_neg]; intro h; exact hd (List.all_eq_true.1 h c hmem))
              have hd2 : (c.toNat : Int) < 48 ∨ (48 ≤ (c.toNat : Int) ∧ 57 < (c.toNat : Int)) := by
                have : ¬ (48 ≤ c.toNat ∧ c.toNat ≤ 57) := fun h => hd (by simpa [isDig] using h)
                omega
              clear hd hmem
              rcases hd2 with d1 | ⟨d1, d2⟩
              · go_wp2_with fail
                go_ret
                exact hno _ hb HF.out
              · go_wp2_with fail
                go_ret
                exact hno _ hb HF.out
          · have e : k = n := by omega
            have HF := Lib.hid (show natB 6 l = some (valL (l.take k)) by
              have ht : l.take k = l := by rw [List.take_of_length_le]; omega
              rw [HX.out, if_pos (by rw [← ht]; exact ha), ht])
            generalize valL (l.take k) = v at *
            clear ha hlen
            subst e
            go_wp2_with fail
            go_ret
            rw [HF.out]
            exact ⟨rfl, hb⟩
  · have hin : inB (n : Int) 1 6 = false := by
      cases hc : inB (n : Int) 1 6 with
      | false => rfl
      | true => exact absurd (inB_iff.1 hc) (by omega)
    have hin2 : inB ((bS l).size : Int) 1 6 = false := by rw [hsz]; exact hin
    have HF := Lib.hid (show natB 6 l = none by rw [hN, if_neg (by omega)])
    clear hN hn
    go_enter Tryz.func98, Tryz.ntmps98
    go_wp2_with (go_at_call 49; refine (l1In_any _ _ _ _).mono ?_; rintro e w1 ⟨rfl, rfl⟩)
    go_ret
    exact hno _ (Below.refl _ _) HF.out
end Go.Proofs.YtbfhfjpfjkdcfaaGreatDoor
