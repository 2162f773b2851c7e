/- Words and contracts, part 7. -/
import Derived.Test.YtbfhfjpfjkdcfaaGreatDoorRows
import Derived.OwnWalk
import Derived.Lib.Strings
import Derived.Test.YtbfhfjpfjkdcfaaGreatDoorZ6
namespace Go.Proofs.YtbfhfjpfjkdcfaaGreatDoor
open Go.RowKit Go.ChangeShapes Go.WideShapes Go.Sort Go.Proofs

theorem cells_app (a b : List UInt8) : Lib.byteCells a ++ Lib.strCells (bS b) = Lib.byteCells (a ++ b) := by
  rw [show Lib.strCells (bS b) = Lib.byteCells b from rfl]
  unfold Lib.byteCells
  rw [List.map_append]
set_option maxRecDepth 100000 in
set_option maxHeartbeats 4000000 in
theorem chartText_s (v : Value) (n : Nat) (X Y : Nat → Int) (w : World) (h : Spots w v n X Y) (hn : n ≤ 12) (hs : ∀ i, i < n → (0 ≤ X i ∧ X i ≤ 1280) ∧ 0 ≤ Y i ∧ Y i ≤ 672) (ht : TabW w) :
    Calls Tryz.prog 24 #[v] w (Ans w (.string (bS (txL X Y n)))) := by
  obtain ⟨A, c, rfl, hnc, hrow⟩ := h
  have hfr := Lib.fresh_isBuilder 72 5 w
  go_enter Tryz.func24, Tryz.ntmps24
  go_wp2_with fail
  go_loopw [10] (fun i wr => ∃ k : Nat, k ≤ n ∧ i = .int .i64 k ∧ Lib.IsBuilder 72 5 w.heap.size w.heap.size (Lib.byteCells (txL X Y k)) wr ∧ Below w.heap.size w wr) (fun i _ => n - (intOf i).toNat)
  case atStart => exact ⟨0, by omega, rfl, hfr, by (repeat (first | with_reducible exact Below.refl _ _ | with_reducible assumption | with_reducible refine up_alloc ?_ _ | with_reducible refine up_drew ?_ | with_reducible refine up_drewN ?_ _ | (with_reducible refine up_set ?_ ?hset _; case hset => first | (simp; done) | (simp; omega) | omega) | with_reducible refine up_trans ?_ (by with_reducible assumption)))⟩
  case round =>
    obtain ⟨k, hk, rfl, hbd, hb⟩ := hrel
    have HB := Lib.hid hbd
    clear hbd hfr
    have hsz := hb.size
    by_cases hlt : k < n
    · obtain ⟨b, o, rfl, hr⟩ := hrow (by omega)
      have hsk := hs k hlt
      obtain ⟨x, hx⟩ : ∃ x : Nat, X k = (x : Int) := ⟨(X k).toNat, by omega⟩
      obtain ⟨y, hy⟩ : ∃ y : Nat, Y k = (y : Int) := ⟨(Y k).toNat, by omega⟩
      have c1 := up_keep hb (hr k hlt).1
      have c2 := up_keep hb (hr k hlt).2
      rw [hx] at c1
      rw [hy] at c2
      have hx1 : x ≤ 1280 := by omega
      have hy1 : y ≤ 672 := by omega
      have hl1 := sp_len hx1 (show y ≤ 1280 by omega)
      have hl2 := tx_len (X := X) (Y := Y) (n := k) (fun i hi => hs i (by omega))
      have HT := Lib.hid (fun (W : World) (hW : Below w.heap.size w W) => spotText_s x y hx1 hy1 W (ht.up hW))
      have HD := Lib.hid (show Lib.byteCells (txL X Y k) ++ Lib.strCells (bS (spL x y ++ [10])) = Lib.byteCells (txL X Y (k + 1)) by rw [cells_app]; simp only [txL, hx, hy]; rfl)
      have hkc : k ≤ c := by omega
      have h1 : ∀ w : World, (Op.stringOp .add (bS (spL x y)) ⟨#[10]⟩).run Tryz.prog w = .ok (.string (bS (spL x y ++ [10]))) w := add_bS (spL x y) [10] (by simp; omega)
      have HW := Lib.hid (fun (W : World) (hW : Below wr.heap.size wr W) => writeStr w.heap.size w.heap.size (Lib.byteCells (txL X Y k)) (bS (spL x y ++ [10])) W (bld_below HB.out hW) (by rw [Lib.byteCells_length, bS_size]; simp; omega) (Nat.le_trans hsz hW.size))
      clear hr hrow hs hsk hx hy hx1 hy1 hl1 hl2
      go_wp2_with (first
        | (go_at_call 45; (refine (HT.out _ (by (repeat (first | with_reducible exact Below.refl _ _ | with_reducible assumption | with_reducible refine up_alloc ?_ _ | with_reducible refine up_drew ?_ | with_reducible refine up_drewN ?_ _ | (with_reducible refine up_set ?_ ?hset _; case hset => first | (simp; done) | (simp; omega) | omega) | with_reducible refine up_trans ?_ (by with_reducible assumption))))).mono ?_); rintro e w1 ⟨rfl, hb1⟩)
        | (go_at_call 46; (refine (HW.out _ (by (repeat (first | with_reducible exact Below.refl _ _ | with_reducible assumption | with_reducible refine up_alloc ?_ _ | with_reducible refine up_drew ?_ | with_reducible refine up_drewN ?_ _ | (with_reducible refine up_set ?_ ?hset _; case hset => first | (simp; done) | (simp; omega) | omega) | with_reducible refine up_trans ?_ (by with_reducible assumption))))).mono ?_); rintro e w2 ⟨rfl, hd2, hb2⟩))
      go_roundw
      case rel => exact ⟨k + 1, by omega, by go_num, by rw [HD.out] at hd2; exact hd2, (show Below w.heap.size w w1 from (by (repeat (first | with_reducible exact Below.refl _ _ | with_reducible assumption | with_reducible refine up_alloc ?_ _ | with_reducible refine up_drew ?_ | with_reducible refine up_drewN ?_ _ | (with_reducible refine up_set ?_ ?hset _; case hset => first | (simp; done) | (simp; omega) | omega) | with_reducible refine up_trans ?_ (by with_reducible assumption))))).trans hb2⟩
      case measure => simp [intOf]; omega
    · have e : k = n := by omega
      subst e
      have HS := Lib.hid (Tryz.Builder_String_any w.heap.size w.heap.size (txL X Y k) wr HB.out hsz)
      go_wp2_with (go_at_call 47; (refine (HS.out).mono ?_); rintro e w2 ⟨rfl, hb2⟩)
      go_ret
      exact ⟨rfl, hb.trans hb2⟩
set_option maxRecDepth 100000 in
set_option maxHeartbeats 2000000 in
theorem implChartText_s (v : Value) (n : Nat) (X Y : Nat → Int) (w : World) (h : Spots w v n X Y) (hn : n ≤ 9223372036854775807) (ht : TabW w) :
    Calls Tryz.prog 6 #[v] w (Ans w (.tuple #[.string (bS (if chartB n X Y = true then txL X Y n else [])), .bool (chartB n X Y)])) := by
  have HG := Lib.hid (isChart_g v n X Y w h hn)
  cases hc : chartB n X Y with
  | false =>
    rw [hc] at HG
    have HD := Lib.hid (show bS (if false = true then txL X Y n else []) = ⟨#[]⟩ from rfl)
    rw [HD.out]
    clear hc HD h
    go_enter Tryz.func6, Tryz.ntmps6
    go_wp2_with ((go_at_call 18; refine (from0 (HG.out) (by first | exact hb0 | exact up_alloc hb0 _ | exact up_drew hb0 | exact up_drewN hb0 _ | exact Below.refl _ _)).mono ?_; rintro e w1 ⟨rfl, hb0⟩; obtain ⟨hc0, hf0⟩ := bcell hb0))
    go_ret2
    exact ⟨rfl, by (repeat (first | with_reducible exact Below.refl _ _ | with_reducible assumption | with_reducible refine up_alloc ?_ _ | with_reducible refine up_drew ?_ | with_reducible refine up_drewN ?_ _ | (with_reducible refine up_set ?_ ?hset _; case hset => first | (simp; done) | (simp; omega) | omega) | with_reducible refine up_trans ?_ (by with_reducible assumption)))⟩
  | true =>
    obtain ⟨⟨_, h12⟩, hsp, _⟩ := chartB_iff.1 hc
    rw [hc] at HG
    have HT := Lib.hid (fun (W : World) (hW : Below w.heap.size w W) => chartText_s v n X Y W (h.up hW) h12 (fun i hi => by have := spotB_iff.1 (hsp i hi); exact this) (ht.up hW))
    have HD := Lib.hid (show bS (if true = true then txL X Y n else []) = bS (txL X Y n) from rfl)
    rw [HD.out]
    clear hc HD h hsp h12
    go_enter Tryz.func6, Tryz.ntmps6
    go_wp2_with (first | (go_at_call 18; (refine (HG.out).mono ?_); rintro e w1 ⟨rfl, hb1⟩) | (go_at_call 24; (refine (HT.out _ (by (repeat (first | with_reducible exact Below.refl _ _ | with_reducible assumption | with_reducible refine up_alloc ?_ _ | with_reducible refine up_drew ?_ | with_reducible refine up_drewN ?_ _ | (with_reducible refine up_set ?_ ?hset _; case hset => first | (simp; done) | (simp; omega) | omega) | with_reducible refine up_trans ?_ (by with_reducible assumption))))).mono ?_); rintro e w2 ⟨rfl, hb2⟩))
    go_ret2
    exact ⟨rfl, by (repeat (first | with_reducible exact Below.refl _ _ | with_reducible assumption | with_reducible refine up_alloc ?_ _ | with_reducible refine up_drew ?_ | with_reducible refine up_drewN ?_ _ | (with_reducible refine up_set ?_ ?hset _; case hset => first | (simp; done) | (simp; omega) | omega) | with_reducible refine up_trans ?_ (by with_reducible assumption)))⟩
end Go.Proofs.YtbfhfjpfjkdcfaaGreatDoor
namespace Go.Proofs.YtbfhfjpfjkdcfaaGreatDoor
open Go.RowKit Go.ChangeShapes Go.WideShapes Go.Sort Go.Proofs

/-- A list of strings in memory. -/
def strV (l : List UInt8) : Value := .string (bS l)
def Strs (w : World) (v : Value) (ls : List (List UInt8)) : Prop := ∃ A c, v = .slice A ls.length c ∧ ls.length ≤ c ∧ (0 < ls.length → ∃ b o, A = some ⟨b, o, none⟩ ∧ ∀ i p, ls[i]? = some p → w.cell? ⟨b, o + i, none⟩ = some (.string (bS p)))
theorem Strs.up {w w' : World} {v : Value} {ls : List (List UInt8)} (h : Strs w v ls) (hb : Below w.heap.size w w') : Strs w' v ls := by
  obtain ⟨A, c, rfl, hc, hr⟩ := h
  exact ⟨A, c, rfl, hc, fun h0 => by obtain ⟨b, o, e, hx⟩ := hr h0; exact ⟨b, o, e, fun i p hi => up_keep hb (hx i p hi)⟩⟩
theorem bS_cut (l : List UInt8) (a b : Nat) : (bS l).extract a b = bS ((l.drop a).take (b - a)) := by
  apply ByteArray.ext
  apply Array.toList_inj.1
  rw [Lib.extract_data]
  rfl
theorem piece (b : UInt8) (l : List UInt8) (f k : Nat) (hf : f ≤ k) (hk : l[k]? = some b) : l.drop f = (l.drop f).take (k - f) ++ b :: l.drop (k + 1) := by
  have h1 : (l.drop f)[k - f]? = some b := by rw [List.getElem?_drop, show f + (k - f) = k by omega]; exact hk
  have h2 : (l.drop f).drop (k - f) = b :: l.drop (k + 1) := by
    rw [List.drop_drop, show f + (k - f) = k by omega, ← List.getElem_cons_drop (List.getElem?_eq_some_iff.1 hk).1]
    rw [(List.getElem?_eq_some_iff.1 hk).2]
  rw [← h2, List.take_append_drop]
theorem piece_more (l : List UInt8) (c : UInt8) (f k : Nat) (hf : f ≤ k) (hk : l[k]? = some c) : (l.drop f).take (k + 1 - f) = (l.drop f).take (k - f) ++ [c] := by
  rw [show k + 1 - f = k - f + 1 by omega]
  exact take_snoc _ _ _ (by rw [List.getElem?_drop, show f + (k - f) = k by omega]; exact hk)
theorem strs_of {w : World} {B : Nat} {e : TypeId} {v : Value} {ls : List (List UInt8)} (h : w.ownsRow B e 1 v ls.length (ls.map strV)) (h0 : ls ≠ []) : Strs w v ls := by
  have hl0 : ls.length ≠ 0 := by simpa using h0
  obtain ⟨g, cap, cur, rfl, hbg, hg, hnc, hcm, hcs, htake⟩ : ∃ g cap cur, v = .slice (some ⟨g, 0, none⟩) ls.length cap ∧ B ≤ g ∧ w.heap[g]? = some (.cells cur e (0, 0)) ∧ ls.length ≤ cap ∧ cap ≤ maxLen ∧ cur.size = cap * 1 ∧ cur.toList.take (ls.length * 1) = ls.map strV := by
    rcases h.2 with ⟨_, hz⟩ | ⟨g, cap, cur, hv, r⟩
    · exact absurd hz hl0
    · exact ⟨g, cap, cur, hv, r⟩
  refine ⟨_, _, rfl, hnc, fun _ => ⟨g, 0, rfl, fun i p hi => ?_⟩⟩
  have hil : i < ls.length := (List.getElem?_eq_some_iff.1 hi).1
  have h1 : (cur.toList.take (ls.length * 1))[i]? = some (.string (bS p)) := by rw [htake, List.getElem?_map, hi]; rfl
  rw [List.getElem?_take_of_lt (by omega)] at h1
  simp only [World.cell?, Nat.zero_add, hg]
  simpa using h1
set_option maxRecDepth 100000 in
set_option maxHeartbeats 2000000 in
theorem l1Split_s (l : List UInt8) (b : UInt8) (w : World) (hl : l.length ≤ 1048576) : Calls Tryz.prog 60 #[.string (bS l), .int .u8 ((b.toNat : Nat) : Int)] w
    (fun e w' => ∃ v, e = .returned v ∧ Strs w' v (splitL b l) ∧ Below w.heap.size w w') := by
  obtain ⟨n, hn⟩ : ∃ n, n = l.length := ⟨_, rfl⟩
  have hsz := bS_size l
  rw [← hn] at hsz hl
  have HN := Lib.hid hn
  obtain ⟨i0, hi, hz0, hz1, hz2⟩ := info_parts (show (Tryz.prog.info? 9).map (fun i => (i.zero, i.size, i.bytes)) = some (some (.string ⟨#[]⟩), 1, 16) by kernel_rfl)
  clear hn
  go_enter Tryz.func60, Tryz.ntmps60
  go_wp2_with fail
  go_loopw [5, 6, 7] (fun v f i wr => ∃ (k fr : Nat) (o : List (List UInt8)), k ≤ n ∧ fr ≤ k ∧ o.length ≤ k ∧ f = .int .i64 fr ∧ i = .int .i64 k ∧ wr.ownsRow w.heap.size 9 1 v o.length (o.map strV) ∧ splitL b l = o ++ splitL b (l.drop fr) ∧ b ∉ (l.drop fr).take (k - fr) ∧ Below w.heap.size w wr) (fun _ _ i _ => n - (intOf i).toNat)
  case atStart => exact ⟨0, 0, [], by omega, by omega, by simp, rfl, rfl, World.ownsRow_nil _ _ _ _, by simp, by simp, Below.refl _ _⟩
  case round =>
    obtain ⟨k, fr, o, hk, hfk, hok, rfl, rfl, how, hsp, hnb, hb⟩ := hrel
    have HSP := Lib.hid hsp
    have HNB := Lib.hid hnb
    have hlen := HN.out
    clear hsp hnb
    by_cases hlt : k < n
    · obtain ⟨c, hc⟩ : ∃ c, l[k]? = some c := ⟨l[k]'(by omega), List.getElem?_eq_getElem _⟩
      have hgk : ∀ h, (bS l)[k]'h = c := fun h => bS_get l k c hc h
      have HC := Lib.hid hc
      clear hc hlen
      by_cases he : c = b
      · subst he
        have hex : (bS l).extract fr k = bS ((l.drop fr).take (k - fr)) := bS_cut l fr k
        go_wp2_with (at_builtin; refine wpList_append_own _ rfl _ _ 58 rfl w.heap.size 9 i0 (.string ⟨#[]⟩) 1 16 Tryz.underlying58 hi hz0 hz1 hz2 rfl (by decide) _ _ _ rfl (how.alloc _) ⟨wr.heap.size, 0, none⟩ 1 1 [.string (bS ((l.drop fr).take (k - fr)))] rfl rfl ?c1 ?c2 ?c3 ?c4 ?c5 ?_)
        case c1 =>
          intro j u hj
          match j, hj with
          | 0, hj => simp at hj; subst hj; exact cell_one_new wr _ _ 0 _ rfl
        case c2 => intro u hu; simp at hu; subst hu; rfl
        case c3 => unfold maxLen; omega
        case c4 => omega
        case c5 => have := hb.size; simp; omega
        intro v' w2 hown' hgrow _
        have hb2 : Below w.heap.size w w2 := (hb.alloc (by have := hb.size; omega) _).grown hgrow (by have := hb.size; simp; omega) (fun k hk => (how.lt k hk).1)
        have HO := Lib.hid hown'
        clear hown' hgrow how
        go_wp2_with fail
        go_roundw
        case rel => exact ⟨k + 1, k + 1, o ++ [(l.drop fr).take (k - fr)], by omega, by omega, by simp; omega, by go_num, by go_num, by have := HO.out; simpa [strV] using this, by
          have h1 := HSP.out
          rw [piece c l fr k hfk HC.out, splitL_hit HNB.out] at h1
          rw [h1]; simp, by simp, hb2⟩
        case measure => simp [intOf]; omega
      · have hne : ((c.toNat : Int) == (b.toNat : Int)) = false := by
          have h48 : c.toNat ≠ b.toNat := fun h => he (UInt8.toNat.inj h)
          simp; omega
        have HE := Lib.hid he
        clear he
        go_wp2_with fail
        go_roundw
        case rel => exact ⟨k + 1, fr, o, by omega, by omega, by omega, rfl, by go_num, how, HSP.out, by rw [piece_more l c fr k hfk HC.out]; simp only [List.mem_append, List.mem_singleton, not_or]; exact ⟨HNB.out, fun h => HE.out h.symm⟩, hb⟩
        case measure => simp [intOf]; omega
    · have e : k = n := by omega
      have hw : (l.drop fr).take (k - fr) = l.drop fr := by rw [List.take_of_length_le]; rw [List.length_drop]; omega
      have HL := Lib.hid (show splitL b l = o ++ [l.drop fr] by
        have h1 := HSP.out
        have h2 := HNB.out
        rw [hw] at h2
        rw [h1, splitL_miss h2])
      have hex : (bS l).extract fr n = bS (l.drop fr) := by rw [bS_cut, ← e, hw]
      clear hw hlen
      subst e
      go_wp2_with (at_builtin; refine wpList_append_own _ rfl _ _ 58 rfl w.heap.size 9 i0 (.string ⟨#[]⟩) 1 16 Tryz.underlying58 hi hz0 hz1 hz2 rfl (by decide) _ _ _ rfl (how.alloc _) ⟨wr.heap.size, 0, none⟩ 1 1 [.string (bS (l.drop fr))] rfl rfl ?c1 ?c2 ?c3 ?c4 ?c5 ?_)
      case c1 =>
        intro j u hj
        match j, hj with
        | 0, hj => simp at hj; subst hj; exact cell_one_new wr _ _ 0 _ rfl
      case c2 => intro u hu; simp at hu; subst hu; rfl
      case c3 => unfold maxLen; omega
      case c4 => omega
      case c5 => have := hb.size; simp; omega
      intro v' w2 hown' hgrow _
      have hb2 : Below w.heap.size w w2 := (hb.alloc (by have := hb.size; omega) _).grown hgrow (by have := hb.size; simp; omega) (fun k hk => (how.lt k hk).1)
      have HO := Lib.hid hown'
      clear hown' hgrow how
      go_wp2_with fail
      go_ret
      refine ⟨_, rfl, ?_, hb2⟩
      rw [HL.out]
      exact strs_of (by have := HO.out; simpa [strV] using this) (by simp)
end Go.Proofs.YtbfhfjpfjkdcfaaGreatDoor
namespace Go.Proofs.YtbfhfjpfjkdcfaaGreatDoor
open Go.RowKit Go.ChangeShapes Go.WideShapes Go.Sort Go.Proofs

set_option maxHeartbeats 1000000 in
theorem asForm_s (v : Value) (n : Nat) (X Y : Nat → Int) (w : World) (h : Spots w v n X Y) (hn : n ≤ 9223372036854775807) :
    Calls Tryz.prog 39 #[v] w (Ans w (.tuple #[if chartB n X Y = true then v else .slice none 0 0, .bool (chartB n X Y)])) := by
  have HG := Lib.hid (isChart_g v n X Y w h hn)
  cases hc : chartB n X Y with
  | false =>
    rw [hc] at HG
    have HD := Lib.hid (show (if false = true then v else Value.slice none 0 0) = .slice none 0 0 from rfl)
    rw [HD.out]
    clear hc HD h
    go_enter Tryz.func39, Tryz.ntmps39
    go_wp2_with ((go_at_call 18; refine (from0 (HG.out) (by first | exact hb0 | exact up_alloc hb0 _ | exact up_drew hb0 | exact up_drewN hb0 _ | exact Below.refl _ _)).mono ?_; rintro e w1 ⟨rfl, hb0⟩; obtain ⟨hc0, hf0⟩ := bcell hb0))
    go_ret2
    exact ⟨rfl, by (repeat (first | with_reducible exact Below.refl _ _ | with_reducible assumption | with_reducible refine up_alloc ?_ _ | with_reducible refine up_drew ?_ | with_reducible refine up_drewN ?_ _ | (with_reducible refine up_set ?_ ?hset _; case hset => first | (simp; done) | (simp; omega) | omega) | with_reducible refine up_trans ?_ (by with_reducible assumption)))⟩
  | true =>
    rw [hc] at HG
    have HD := Lib.hid (show (if true = true then v else Value.slice none 0 0) = v from rfl)
    rw [HD.out]
    clear hc HD h
    go_enter Tryz.func39, Tryz.ntmps39
    go_wp2_with ((go_at_call 18; refine (from0 (HG.out) (by first | exact hb0 | exact up_alloc hb0 _ | exact up_drew hb0 | exact up_drewN hb0 _ | exact Below.refl _ _)).mono ?_; rintro e w1 ⟨rfl, hb0⟩; obtain ⟨hc0, hf0⟩ := bcell hb0))
    go_ret2
    exact ⟨rfl, by (repeat (first | with_reducible exact Below.refl _ _ | with_reducible assumption | with_reducible refine up_alloc ?_ _ | with_reducible refine up_drew ?_ | with_reducible refine up_drewN ?_ _ | (with_reducible refine up_set ?_ ?hset _; case hset => first | (simp; done) | (simp; omega) | omega) | with_reducible refine up_trans ?_ (by with_reducible assumption)))⟩
end Go.Proofs.YtbfhfjpfjkdcfaaGreatDoor
namespace Go.Proofs.YtbfhfjpfjkdcfaaGreatDoor
open Go.RowKit Go.ChangeShapes Go.WideShapes Go.Sort Go.Proofs

def spV (o : Option (Nat × Nat)) : Value := match o with
  | some (x, y) => .tuple #[.agg #[.int .i64 (x : Int), .int .i64 (y : Int)], .bool true]
  | none => .tuple #[.agg #[.int .i64 0, .int .i64 0], .bool false]
set_option maxRecDepth 100000 in
set_option maxHeartbeats 2000000 in
theorem parseSpot_s (l : List UInt8) (w : World) (hl : l.length ≤ 1048576) (hm : MaxW w) : Calls Tryz.prog 38 #[.string (bS l)] w (Ans w (spV (spP 9 l))) := by
  cases hc : cut1 44 l with
  | none =>
    have HC := Lib.hid (fun (W : World) (hW : Below w.heap.size w W) => cut_no 44 l W hl (hm.up hW) hc)
    have HD := Lib.hid (show spV (spP 9 l) = .tuple #[.agg #[.int .i64 0, .int .i64 0], .bool false] by unfold spP; rw [hc]; rfl)
    clear hc hm
    go_enter Tryz.func38, Tryz.ntmps38
    have g0 := (cell_new2 w (.int .i64 0) (.int .i64 0) 42).1
    have g1 := (cell_new2 w (.int .i64 0) (.int .i64 0) 42).2
    go_wp2_with ((go_at_call 56; refine (from0 (HC.out _ (by (repeat (first | with_reducible exact Below.refl _ _ | with_reducible assumption | with_reducible refine up_alloc ?_ _ | with_reducible refine up_drew ?_ | with_reducible refine up_drewN ?_ _ | (with_reducible refine up_set ?_ ?hset _; case hset => first | (simp; done) | (simp; omega) | omega) | with_reducible refine up_trans ?_ (by with_reducible assumption))))) (by first | exact hb0 | exact up_alloc hb0 _ | exact up_drew hb0 | exact up_drewN hb0 _ | exact Below.refl _ _)).mono ?_; rintro e w1 ⟨rfl, hb0⟩; obtain ⟨hc0, hf0⟩ := bcell hb0; have hz0 := hb0.size; simp at hz0; have hz1 : w.heap.size < w1.heap.size := (by omega); try have hz2 : w.heap.size + 1 < w1.heap.size := (by omega)))
    refine bodyPost_ret (v := .tuple #[.agg #[.int .i64 0, .int .i64 0], .bool false]) (by simp [results, Tryz.results38, go_sem, *]) rfl ?_
    rw [HD.out]
    exact ⟨rfl, by first | (repeat (first | with_reducible exact Below.refl _ _ | with_reducible assumption | with_reducible refine up_alloc ?_ _ | with_reducible refine up_drew ?_ | with_reducible refine up_drewN ?_ _ | (with_reducible refine up_set ?_ ?hset _; case hset => first | (simp; done) | (simp; omega) | omega) | with_reducible refine up_trans ?_ (by with_reducible assumption))) | skip⟩
  | some z =>
    obtain ⟨p, q⟩ := z
    obtain ⟨hpq, _⟩ := cut1_some.1 hc
    have hll : p.length ≤ 1048576 ∧ q.length ≤ 1048576 := by
      have := congrArg List.length hpq
      simp at this
      omega
    have HC := Lib.hid (fun (W : World) (hW : Below w.heap.size w W) => cut_yes 44 l p q W hl (hm.up hW) hc)
    have HP := Lib.hid (fun (W : World) (hW : Below w.heap.size w W) => readSteps_s p W hll.1 (hm.up hW))
    have HQ := Lib.hid (fun (W : World) (hW : Below w.heap.size w W) => readSteps_s q W hll.2 (hm.up hW))
    have hr : spP 9 l = match rdL 9 p, rdL 9 q with
      | some x, some y => if x ≤ 1280 ∧ y ≤ 672 then some (x, y) else none
      | _, _ => none := by unfold spP; rw [hc]; rfl
    clear hc hpq hll hm hl
    cases hp : rdL 9 p with
    | none =>
      cases hq : rdL 9 q with
      | none =>
        have HD := Lib.hid (show spV (spP 9 l) = .tuple #[.agg #[.int .i64 0, .int .i64 0], .bool false] by rw [hr, hp, hq]; rfl)
        rw [hp, show natV none = .tuple #[.int .i64 0, .bool false] from rfl] at HP
        rw [hq, show natV none = .tuple #[.int .i64 0, .bool false] from rfl] at HQ
        clear hr hp hq
        go_enter Tryz.func38, Tryz.ntmps38
        have g0 := (cell_new2 w (.int .i64 0) (.int .i64 0) 42).1
        have g1 := (cell_new2 w (.int .i64 0) (.int .i64 0) 42).2
        go_wp2_with (first | (go_at_call 56; refine (from0 (HC.out _ (by (repeat (first | with_reducible exact Below.refl _ _ | with_reducible assumption | with_reducible refine up_alloc ?_ _ | with_reducible refine up_drew ?_ | with_reducible refine up_drewN ?_ _ | (with_reducible refine up_set ?_ ?hset _; case hset => first | (simp; done) | (simp; omega) | omega) | with_reducible refine up_trans ?_ (by with_reducible assumption))))) (by first | exact hb0 | exact up_alloc hb0 _ | exact up_drew hb0 | exact up_drewN hb0 _ | exact Below.refl _ _)).mono ?_; rintro e w1 ⟨rfl, hb0⟩; obtain ⟨hc0, hf0⟩ := bcell hb0; have hz0 := hb0.size; simp at hz0; have hz1 : w.heap.size < w1.heap.size := (by omega); try have hz2 : w.heap.size + 1 < w1.heap.size := (by omega)) | (go_at_call 57; (with_reducible show Calls Tryz.prog _ #[.string (bS p)] _ _); refine (from0 (HP.out _ (by (repeat (first | with_reducible exact Below.refl _ _ | with_reducible assumption | with_reducible refine up_alloc ?_ _ | with_reducible refine up_drew ?_ | with_reducible refine up_drewN ?_ _ | (with_reducible refine up_set ?_ ?hset _; case hset => first | (simp; done) | (simp; omega) | omega) | with_reducible refine up_trans ?_ (by with_reducible assumption))))) hb0).mono ?_; rintro e w2 ⟨rfl, hb2⟩; obtain ⟨hc2, hf2⟩ := bcell hb2; have hz2 : w.heap.size < w2.heap.size := by have := hb2.size; simp at this; omega) | (go_at_call 57; (with_reducible show Calls Tryz.prog _ #[.string (bS q)] _ _); refine (from0 (HQ.out _ (by (repeat (first | with_reducible exact Below.refl _ _ | with_reducible assumption | with_reducible refine up_alloc ?_ _ | with_reducible refine up_drew ?_ | with_reducible refine up_drewN ?_ _ | (with_reducible refine up_set ?_ ?hset _; case hset => first | (simp; done) | (simp; omega) | omega) | with_reducible refine up_trans ?_ (by with_reducible assumption))))) hb2).mono ?_; rintro e w3 ⟨rfl, hb3⟩; obtain ⟨hc3, hf3⟩ := bcell hb3; have hz3 : w.heap.size < w3.heap.size := by have := hb3.size; simp at this; omega))
        refine bodyPost_ret (v := .tuple #[.agg #[.int .i64 0, .int .i64 0], .bool false]) (by simp [results, Tryz.results38, go_sem, *]) rfl ?_
        rw [HD.out]
        exact ⟨rfl, by (repeat (first | with_reducible exact Below.refl _ _ | with_reducible assumption | with_reducible refine up_alloc ?_ _ | with_reducible refine up_drew ?_ | with_reducible refine up_drewN ?_ _ | (with_reducible refine up_set ?_ ?hset _; case hset => first | (simp; done) | (simp; omega) | omega) | with_reducible refine up_trans ?_ (by with_reducible assumption)))⟩
      | some y =>
        have HD := Lib.hid (show spV (spP 9 l) = .tuple #[.agg #[.int .i64 0, .int .i64 0], .bool false] by rw [hr, hp, hq]; rfl)
        rw [hp, show natV none = .tuple #[.int .i64 0, .bool false] from rfl] at HP
        rw [hq, show natV (some y) = .tuple #[.int .i64 (y : Int), .bool true] from rfl] at HQ
        clear hr hp hq
        go_enter Tryz.func38, Tryz.ntmps38
        have g0 := (cell_new2 w (.int .i64 0) (.int .i64 0) 42).1
        have g1 := (cell_new2 w (.int .i64 0) (.int .i64 0) 42).2
        go_wp2_with (first | (go_at_call 56; refine (from0 (HC.out _ (by (repeat (first | with_reducible exact Below.refl _ _ | with_reducible assumption | with_reducible refine up_alloc ?_ _ | with_reducible refine up_drew ?_ | with_reducible refine up_drewN ?_ _ | (with_reducible refine up_set ?_ ?hset _; case hset => first | (simp; done) | (simp; omega) | omega) | with_reducible refine up_trans ?_ (by with_reducible assumption))))) (by first | exact hb0 | exact up_alloc hb0 _ | exact up_drew hb0 | exact up_drewN hb0 _ | exact Below.refl _ _)).mono ?_; rintro e w1 ⟨rfl, hb0⟩; obtain ⟨hc0, hf0⟩ := bcell hb0; have hz0 := hb0.size; simp at hz0; have hz1 : w.heap.size < w1.heap.size := (by omega); try have hz2 : w.heap.size + 1 < w1.heap.size := (by omega)) | (go_at_call 57; (with_reducible show Calls Tryz.prog _ #[.string (bS p)] _ _); refine (from0 (HP.out _ (by (repeat (first | with_reducible exact Below.refl _ _ | with_reducible assumption | with_reducible refine up_alloc ?_ _ | with_reducible refine up_drew ?_ | with_reducible refine up_drewN ?_ _ | (with_reducible refine up_set ?_ ?hset _; case hset => first | (simp; done) | (simp; omega) | omega) | with_reducible refine up_trans ?_ (by with_reducible assumption))))) hb0).mono ?_; rintro e w2 ⟨rfl, hb2⟩; obtain ⟨hc2, hf2⟩ := bcell hb2; have hz2 : w.heap.size < w2.heap.size := by have := hb2.size; simp at this; omega) | (go_at_call 57; (with_reducible show Calls Tryz.prog _ #[.string (bS q)] _ _); refine (from0 (HQ.out _ (by (repeat (first | with_reducible exact Below.refl _ _ | with_reducible assumption | with_reducible refine up_alloc ?_ _ | with_reducible refine up_drew ?_ | with_reducible refine up_drewN ?_ _ | (with_reducible refine up_set ?_ ?hset _; case hset => first | (simp; done) | (simp; omega) | omega) | with_reducible refine up_trans ?_ (by with_reducible assumption))))) hb2).mono ?_; rintro e w3 ⟨rfl, hb3⟩; obtain ⟨hc3, hf3⟩ := bcell hb3; have hz3 : w.heap.size < w3.heap.size := by have := hb3.size; simp at this; omega))
        refine bodyPost_ret (v := .tuple #[.agg #[.int .i64 0, .int .i64 0], .bool false]) (by simp [results, Tryz.results38, go_sem, *]) rfl ?_
        rw [HD.out]
        exact ⟨rfl, by (repeat (first | with_reducible exact Below.refl _ _ | with_reducible assumption | with_reducible refine up_alloc ?_ _ | with_reducible refine up_drew ?_ | with_reducible refine up_drewN ?_ _ | (with_reducible refine up_set ?_ ?hset _; case hset => first | (simp; done) | (simp; omega) | omega) | with_reducible refine up_trans ?_ (by with_reducible assumption)))⟩
    | some x =>
      cases hq : rdL 9 q with
      | none =>
        have HD := Lib.hid (show spV (spP 9 l) = .tuple #[.agg #[.int .i64 0, .int .i64 0], .bool false] by rw [hr, hp, hq]; rfl)
        rw [hp, show natV (some x) = .tuple #[.int .i64 (x : Int), .bool true] from rfl] at HP
        rw [hq, show natV none = .tuple #[.int .i64 0, .bool false] from rfl] at HQ
        clear hr hp hq
        go_enter Tryz.func38, Tryz.ntmps38
        have g0 := (cell_new2 w (.int .i64 0) (.int .i64 0) 42).1
        have g1 := (cell_new2 w (.int .i64 0) (.int .i64 0) 42).2
        go_wp2_with (first | (go_at_call 56; refine (from0 (HC.out _ (by (repeat (first | with_reducible exact Below.refl _ _ | with_reducible assumption | with_reducible refine up_alloc ?_ _ | with_reducible refine up_drew ?_ | with_reducible refine up_drewN ?_ _ | (with_reducible refine up_set ?_ ?hset _; case hset => first | (simp; done) | (simp; omega) | omega) | with_reducible refine up_trans ?_ (by with_reducible assumption))))) (by first | exact hb0 | exact up_alloc hb0 _ | exact up_drew hb0 | exact up_drewN hb0 _ | exact Below.refl _ _)).mono ?_; rintro e w1 ⟨rfl, hb0⟩; obtain ⟨hc0, hf0⟩ := bcell hb0; have hz0 := hb0.size; simp at hz0; have hz1 : w.heap.size < w1.heap.size := (by omega); try have hz2 : w.heap.size + 1 < w1.heap.size := (by omega)) | (go_at_call 57; (with_reducible show Calls Tryz.prog _ #[.string (bS p)] _ _); refine (from0 (HP.out _ (by (repeat (first | with_reducible exact Below.refl _ _ | with_reducible assumption | with_reducible refine up_alloc ?_ _ | with_reducible refine up_drew ?_ | with_reducible refine up_drewN ?_ _ | (with_reducible refine up_set ?_ ?hset _; case hset => first | (simp; done) | (simp; omega) | omega) | with_reducible refine up_trans ?_ (by with_reducible assumption))))) hb0).mono ?_; rintro e w2 ⟨rfl, hb2⟩; obtain ⟨hc2, hf2⟩ := bcell hb2; have hz2 : w.heap.size < w2.heap.size := by have := hb2.size; simp at this; omega) | (go_at_call 57; (with_reducible show Calls Tryz.prog _ #[.string (bS q)] _ _); refine (from0 (HQ.out _ (by (repeat (first | with_reducible exact Below.refl _ _ | with_reducible assumption | with_reducible refine up_alloc ?_ _ | with_reducible refine up_drew ?_ | with_reducible refine up_drewN ?_ _ | (with_reducible refine up_set ?_ ?hset _; case hset => first | (simp; done) | (simp; omega) | omega) | with_reducible refine up_trans ?_ (by with_reducible assumption))))) hb2).mono ?_; rintro e w3 ⟨rfl, hb3⟩; obtain ⟨hc3, hf3⟩ := bcell hb3; have hz3 : w.heap.size < w3.heap.size := by have := hb3.size; simp at this; omega))
        refine bodyPost_ret (v := .tuple #[.agg #[.int .i64 0, .int .i64 0], .bool false]) (by simp [results, Tryz.results38, go_sem, *]) rfl ?_
        rw [HD.out]
        exact ⟨rfl, by (repeat (first | with_reducible exact Below.refl _ _ | with_reducible assumption | with_reducible refine up_alloc ?_ _ | with_reducible refine up_drew ?_ | with_reducible refine up_drewN ?_ _ | (with_reducible refine up_set ?_ ?hset _; case hset => first | (simp; done) | (simp; omega) | omega) | with_reducible refine up_trans ?_ (by with_reducible assumption)))⟩
      | some y =>
        rw [hp, show natV (some x) = .tuple #[.int .i64 (x : Int), .bool true] from rfl] at HP
        rw [hq, show natV (some y) = .tuple #[.int .i64 (y : Int), .bool true] from rfl] at HQ
        rw [hp, hq] at hr
        simp only at hr
        have HI := Lib.hid (isSpot_any (x : Int) (y : Int))
        cases hs : spotB (x : Int) (y : Int) with
        | true =>
          have h7 := spotB_iff.1 hs
          rw [hs] at HI
          rw [if_pos (by omega)] at hr
          have HD := Lib.hid (show spV (spP 9 l) = .tuple #[.agg #[.int .i64 (x : Int), .int .i64 (y : Int)], .bool true] by rw [hr]; rfl)
          clear hr hp hq hs h7
          go_enter Tryz.func38, Tryz.ntmps38
          have g0 := (cell_new2 w (.int .i64 0) (.int .i64 0) 42).1
          have g1 := (cell_new2 w (.int .i64 0) (.int .i64 0) 42).2
          go_wp2_with (first | (go_at_call 56; refine (from0 (HC.out _ (by (repeat (first | with_reducible exact Below.refl _ _ | with_reducible assumption | with_reducible refine up_alloc ?_ _ | with_reducible refine up_drew ?_ | with_reducible refine up_drewN ?_ _ | (with_reducible refine up_set ?_ ?hset _; case hset => first | (simp; done) | (simp; omega) | omega) | with_reducible refine up_trans ?_ (by with_reducible assumption))))) (by first | exact hb0 | exact up_alloc hb0 _ | exact up_drew hb0 | exact up_drewN hb0 _ | exact Below.refl _ _)).mono ?_; rintro e w1 ⟨rfl, hb0⟩; obtain ⟨hc0, hf0⟩ := bcell hb0; have hz0 := hb0.size; simp at hz0; have hz1 : w.heap.size < w1.heap.size := (by omega); try have hz2 : w.heap.size + 1 < w1.heap.size := (by omega)) | (go_at_call 57; (with_reducible show Calls Tryz.prog _ #[.string (bS p)] _ _); refine (from0 (HP.out _ (by (repeat (first | with_reducible exact Below.refl _ _ | with_reducible assumption | with_reducible refine up_alloc ?_ _ | with_reducible refine up_drew ?_ | with_reducible refine up_drewN ?_ _ | (with_reducible refine up_set ?_ ?hset _; case hset => first | (simp; done) | (simp; omega) | omega) | with_reducible refine up_trans ?_ (by with_reducible assumption))))) hb0).mono ?_; rintro e w2 ⟨rfl, hb2⟩; obtain ⟨hc2, hf2⟩ := bcell hb2; have hz2 : w.heap.size < w2.heap.size := by have := hb2.size; simp at this; omega) | (go_at_call 57; (with_reducible show Calls Tryz.prog _ #[.string (bS q)] _ _); refine (from0 (HQ.out _ (by (repeat (first | with_reducible exact Below.refl _ _ | with_reducible assumption | with_reducible refine up_alloc ?_ _ | with_reducible refine up_drew ?_ | with_reducible refine up_drewN ?_ _ | (with_reducible refine up_set ?_ ?hset _; case hset => first | (simp; done) | (simp; omega) | omega) | with_reducible refine up_trans ?_ (by with_reducible assumption))))) hb2).mono ?_; rintro e w3 ⟨rfl, hb3⟩; obtain ⟨hc3, hf3⟩ := bcell hb3; have hz3 : w.heap.size < w3.heap.size := by have := hb3.size; simp at this; omega) | (go_at_call 35; refine (HI.out _).mono ?_; rintro e w4 ⟨rfl, hb4⟩; have g2 := up_keep hb4 (cell_new2 w3 (.int .i64 (x : Int)) (.int .i64 (y : Int)) 42).1; have g3 := up_keep hb4 (cell_new2 w3 (.int .i64 (x : Int)) (.int .i64 (y : Int)) 42).2; have hb5 := up_trans (up_alloc hb3 _) hb4; obtain ⟨hc4, hf4⟩ := bcell hb5; have hz4 : w.heap.size < w4.heap.size := by have := hb5.size; simp at this; omega))
          refine bodyPost_ret (v := .tuple #[.agg #[.int .i64 (x : Int), .int .i64 (y : Int)], .bool true]) (by simp [results, Tryz.results38, go_sem, *]) rfl ?_
          rw [HD.out]
          exact ⟨rfl, by (repeat (first | with_reducible exact Below.refl _ _ | with_reducible assumption | with_reducible refine up_alloc ?_ _ | with_reducible refine up_drew ?_ | with_reducible refine up_drewN ?_ _ | (with_reducible refine up_set ?_ ?hset _; case hset => first | (simp; done) | (simp; omega) | omega) | with_reducible refine up_trans ?_ (by with_reducible assumption)))⟩
        | false =>
          rw [hs] at HI
          rw [if_neg (fun h => by rw [spotB_iff.2 ⟨⟨by omega, by omega⟩, by omega, by omega⟩] at hs; cases hs)] at hr
          have HD := Lib.hid (show spV (spP 9 l) = .tuple #[.agg #[.int .i64 0, .int .i64 0], .bool false] by rw [hr]; rfl)
          clear hr hp hq hs
          go_enter Tryz.func38, Tryz.ntmps38
          have g0 := (cell_new2 w (.int .i64 0) (.int .i64 0) 42).1
          have g1 := (cell_new2 w (.int .i64 0) (.int .i64 0) 42).2
          go_wp2_with (first | (go_at_call 56; refine (from0 (HC.out _ (by (repeat (first | with_reducible exact Below.refl _ _ | with_reducible assumption | with_reducible refine up_alloc ?_ _ | with_reducible refine up_drew ?_ | with_reducible refine up_drewN ?_ _ | (with_reducible refine up_set ?_ ?hset _; case hset => first | (simp; done) | (simp; omega) | omega) | with_reducible refine up_trans ?_ (by with_reducible assumption))))) (by first | exact hb0 | exact up_alloc hb0 _ | exact up_drew hb0 | exact up_drewN hb0 _ | exact Below.refl _ _)).mono ?_; rintro e w1 ⟨rfl, hb0⟩; obtain ⟨hc0, hf0⟩ := bcell hb0; have hz0 := hb0.size; simp at hz0; have hz1 : w.heap.size < w1.heap.size := (by omega); try have hz2 : w.heap.size + 1 < w1.heap.size := (by omega)) | (go_at_call 57; (with_reducible show Calls Tryz.prog _ #[.string (bS p)] _ _); refine (from0 (HP.out _ (by (repeat (first | with_reducible exact Below.refl _ _ | with_reducible assumption | with_reducible refine up_alloc ?_ _ | with_reducible refine up_drew ?_ | with_reducible refine up_drewN ?_ _ | (with_reducible refine up_set ?_ ?hset _; case hset => first | (simp; done) | (simp; omega) | omega) | with_reducible refine up_trans ?_ (by with_reducible assumption))))) hb0).mono ?_; rintro e w2 ⟨rfl, hb2⟩; obtain ⟨hc2, hf2⟩ := bcell hb2; have hz2 : w.heap.size < w2.heap.size := by have := hb2.size; simp at this; omega) | (go_at_call 57; (with_reducible show Calls Tryz.prog _ #[.string (bS q)] _ _); refine (from0 (HQ.out _ (by (repeat (first | with_reducible exact Below.refl _ _ | with_reducible assumption | with_reducible refine up_alloc ?_ _ | with_reducible refine up_drew ?_ | with_reducible refine up_drewN ?_ _ | (with_reducible refine up_set ?_ ?hset _; case hset => first | (simp; done) | (simp; omega) | omega) | with_reducible refine up_trans ?_ (by with_reducible assumption))))) hb2).mono ?_; rintro e w3 ⟨rfl, hb3⟩; obtain ⟨hc3, hf3⟩ := bcell hb3; have hz3 : w.heap.size < w3.heap.size := by have := hb3.size; simp at this; omega) | (go_at_call 35; refine (HI.out _).mono ?_; rintro e w4 ⟨rfl, hb4⟩; have g2 := up_keep hb4 (cell_new2 w3 (.int .i64 (x : Int)) (.int .i64 (y : Int)) 42).1; have g3 := up_keep hb4 (cell_new2 w3 (.int .i64 (x : Int)) (.int .i64 (y : Int)) 42).2; have hb5 := up_trans (up_alloc hb3 _) hb4; obtain ⟨hc4, hf4⟩ := bcell hb5; have hz4 : w.heap.size < w4.heap.size := by have := hb5.size; simp at this; omega))
          refine bodyPost_ret (v := .tuple #[.agg #[.int .i64 0, .int .i64 0], .bool false]) (by simp [results, Tryz.results38, go_sem, *]) rfl ?_
          rw [HD.out]
          exact ⟨rfl, by (repeat (first | with_reducible exact Below.refl _ _ | with_reducible assumption | with_reducible refine up_alloc ?_ _ | with_reducible refine up_drew ?_ | with_reducible refine up_drewN ?_ _ | (with_reducible refine up_set ?_ ?hset _; case hset => first | (simp; done) | (simp; omega) | omega) | with_reducible refine up_trans ?_ (by with_reducible assumption)))⟩
end Go.Proofs.YtbfhfjpfjkdcfaaGreatDoor
namespace Go.Proofs.YtbfhfjpfjkdcfaaGreatDoor
open Go.RowKit Go.ChangeShapes Go.WideShapes Go.Sort Go.Proofs

theorem split_lib (b : UInt8) : ∀ (k : Nat) (l : List UInt8), l.length ≤ k → Lib.countB (bS l) ⟨#[b]⟩ + 1 = (splitL b l).length ∧ Lib.splitB ⟨#[b]⟩ 0 (Lib.countB (bS l) ⟨#[b]⟩) (bS l) = (splitL b l).map bS
  | k, l, hk => by
    cases hc : cut1 b l with
    | none =>
      have hi : Lib.indexB (bS l) ⟨#[b]⟩ = -1 := index_none hc
      rw [Lib.countB_miss _ _ hi, Lib.splitB_zero, splitL_miss (cut1_none.1 hc)]
      exact ⟨rfl, rfl⟩
    | some z =>
      obtain ⟨p, q⟩ := z
      have hi : Lib.indexB (bS l) ⟨#[b]⟩ = (p.length : Int) := index_some hc
      obtain ⟨hl, hp⟩ := cut1_some.1 hc
      have hx : (bS l).extract (p.length + (⟨#[b]⟩ : ByteArray).size) (bS l).size = bS q := by
        rw [bS_cut, bS_size, show (⟨#[b]⟩ : ByteArray).size = 1 from rfl, hl]
        congr 1
        rw [show p ++ b :: q = (p ++ [b]) ++ q by simp, List.drop_append_of_le_length (by simp), List.drop_of_length_le (by simp)]
        simp only [List.nil_append, List.length_append, List.length_cons]
        exact List.take_of_length_le (by simp)
      have hx0 : (bS l).extract 0 (p.length + 0) = bS p := by
        rw [bS_cut, hl]
        congr 1
        simp
      match k, hk with
      | 0, hk => rw [hl] at hk; simp at hk
      | k + 1, hk =>
        obtain ⟨h1, h2⟩ := split_lib b k q (by rw [hl] at hk; simp at hk; omega)
        have hs : splitL b l = p :: splitL b q := by rw [hl, splitL_hit hp]
        rw [Lib.countB_hit (bS l) ⟨#[b]⟩ _ (Nat.le_refl 1) hi, hx, hs, Nat.add_comm 1, Lib.splitB_hit _ _ _ _ _ hi, hx, hx0, h2]
        exact ⟨by rw [h1]; rfl, rfl⟩
theorem cells_strs (w : World) (t : TypeId) (ls : List (List UInt8)) : Strs (w.alloc (.cells (((ls.map bS).map Value.string).toArray) t)) (.slice (some ⟨w.heap.size, 0, none⟩) ls.length ls.length) ls := by
  refine ⟨_, _, rfl, Nat.le_refl _, fun _ => ⟨w.heap.size, 0, rfl, fun i p hi => ?_⟩⟩
  unfold World.cell?
  rw [heap_alloc_new]
  simp [hi]
/-- What a reading of lines hands back. -/
def LinA (w : World) (o : Option (List (List UInt8))) (e : Ending) (w' : World) : Prop := match o with
  | some ls => ∃ v, e = .returned (.tuple #[v, .bool true]) ∧ Strs w' v ls ∧ Below w.heap.size w w'
  | none => Ans w (.tuple #[.slice none 0 0, .bool false]) e w'
theorem split_s (b : UInt8) (l : List UInt8) (w : World) (hl : l.length ≤ 1048576) (hm : MaxW w) :
    Calls Tryz.prog 55 #[.string (bS l), .string ⟨#[b]⟩] w (fun e w' => ∃ v, e = .returned v ∧ Strs w' v (splitL b l) ∧ Below w.heap.size w w') := by
  obtain ⟨m, hm⟩ := hm
  refine (Tryz.strings_Split (bS l) ⟨#[b]⟩ m w (by rw [bS_size]; omega) hm (Nat.le_refl 1)).mono ?_
  rintro e w' ⟨rfl, rfl⟩
  obtain ⟨h1, h2⟩ := split_lib b l.length l (Nat.le_refl _)
  rw [h1, h2]
  exact ⟨_, rfl, cells_strs _ _ _, below_alloc _ _⟩
set_option maxRecDepth 100000 in
set_option maxHeartbeats 2000000 in
theorem linesOf_nil (w : World) : Calls Tryz.prog 37 #[.string (bS [])] w (LinA w (some [])) := by
  have hE : (bS []).toList.isEmpty = true := by rw [bS_list]; rfl
  go_enter Tryz.func37, Tryz.ntmps37
  go_wp2_with fail
  go_ret2
  exact ⟨_, rfl, ⟨_, _, rfl, Nat.le_refl _, fun h => absurd h (by simp)⟩, by (repeat (first | with_reducible exact Below.refl _ _ | with_reducible assumption | with_reducible refine up_alloc ?_ _ | with_reducible refine up_drew ?_ | with_reducible refine up_drewN ?_ _ | (with_reducible refine up_set ?_ ?hset _; case hset => first | (simp; done) | (simp; omega) | omega) | with_reducible refine up_trans ?_ (by with_reducible assumption)))⟩
set_option maxRecDepth 100000 in
set_option maxHeartbeats 2000000 in
theorem linesOf_end (l : List UInt8) (w : World) (hl : l.length ≤ 1048575) (hm : MaxW w) : Calls Tryz.prog 37 #[.string (bS (l ++ [10]))] w (LinA w (some (splitL 10 l))) := by
  have HS := Lib.hid (split_s 10 l w (by omega) hm)
  have hsz := bS_size (l ++ [10])
  obtain ⟨n, hn⟩ : ∃ n, n = l.length := ⟨_, rfl⟩
  rw [show (l ++ [10] : List UInt8).length = n + 1 from by simp [hn]] at hsz
  have hg : ∀ h, (bS (l ++ [10]))[n]'h = 10 := fun h => bS_get (l ++ [10]) n 10 (by rw [hn]; simp) h
  have hx : (bS (l ++ [10])).extract 0 n = bS l := by rw [bS_cut, hn]; congr 1; simp
  have hne : (bS (l ++ [10])).toList.isEmpty = false := by rw [bS_list]; simp
  rw [← hn] at hl
  clear hn hm
  generalize bS (l ++ [10]) = s at *
  go_enter Tryz.func37, Tryz.ntmps37
  go_wp2_with (go_at_call 55; refine (HS.out).mono ?_; rintro e w1 ⟨v, rfl, hs, hb⟩)
  go_ret2
  exact ⟨_, rfl, hs, hb⟩
set_option maxRecDepth 100000 in
set_option maxHeartbeats 2000000 in
theorem linesOf_bad (l : List UInt8) (c : UInt8) (w : World) (hl : l.length ≤ 1048575) (hc : c ≠ 10) : Calls Tryz.prog 37 #[.string (bS (l ++ [c]))] w (LinA w none) := by
  have hsz := bS_size (l ++ [c])
  obtain ⟨n, hn⟩ : ∃ n, n = l.length := ⟨_, rfl⟩
  rw [show (l ++ [c] : List UInt8).length = n + 1 from by simp [hn]] at hsz
  have hg : ∀ h, (bS (l ++ [c]))[n]'h = c := fun h => bS_get (l ++ [c]) n c (by rw [hn]; simp) h
  have hne : (bS (l ++ [c])).toList.isEmpty = false := by rw [bS_list]; simp
  have h10 : ¬ (c.toNat : Int) = 10 := fun h => hc (UInt8.toNat.inj (show c.toNat = (10 : UInt8).toNat by have : (10 : UInt8).toNat = 10 := rfl; omega))
  rw [← hn] at hl
  clear hn hc
  generalize bS (l ++ [c]) = s at *
  go_enter Tryz.func37, Tryz.ntmps37
  go_wp2_with fail
  go_ret2
  exact ⟨rfl, by (repeat (first | with_reducible exact Below.refl _ _ | with_reducible assumption | with_reducible refine up_alloc ?_ _ | with_reducible refine up_drew ?_ | with_reducible refine up_drewN ?_ _ | (with_reducible refine up_set ?_ ?hset _; case hset => first | (simp; done) | (simp; omega) | omega) | with_reducible refine up_trans ?_ (by with_reducible assumption)))⟩
theorem linesOf_s (l : List UInt8) (w : World) (hl : l.length ≤ 1048576) (hm : MaxW w) : Calls Tryz.prog 37 #[.string (bS l)] w (LinA w (linesR l)) := by
  rcases List.eq_nil_or_concat l with rfl | ⟨t, c, rfl⟩
  · exact linesOf_nil w
  · simp only [List.concat_eq_append] at hl ⊢
    have ht : t.length ≤ 1048575 := by simp at hl; omega
    by_cases hc : c = 10
    · subst hc
      rw [show linesR (t ++ [10]) = some (splitL 10 t) by unfold linesR; rw [if_neg (by simp), if_pos (by simp)]; simp]
      exact linesOf_end t w ht hm
    · rw [show linesR (t ++ [c]) = none by unfold linesR; rw [if_neg (by simp), if_neg (by simpa using hc)]]
      exact linesOf_bad t c w ht hc
end Go.Proofs.YtbfhfjpfjkdcfaaGreatDoor
namespace Go.Proofs.YtbfhfjpfjkdcfaaGreatDoor
open Go.RowKit Go.ChangeShapes Go.WideShapes Go.Sort Go.Proofs

theorem allP_snoc {m : Nat} {a : Nat × Nat} {p : List UInt8} (hp : spP m p = some a) : ∀ {ls : List (List UInt8)} {o : List (Nat × Nat)}, allP m ls = some o → allP m (ls ++ [p]) = some (o ++ [a])
  | [], o, h => by
    obtain rfl := Option.some.inj h
    simp [allP, hp]
  | l :: t, o, h => by
    unfold allP at h
    cases hs : spP m l with
    | none => rw [hs] at h; cases h
    | some b =>
      rw [hs] at h
      simp only at h
      obtain ⟨r, hr, rfl⟩ := Option.map_eq_some_iff.1 h
      rw [List.cons_append, allP, hs]
      simp only
      rw [allP_snoc hp hr]
      rfl
theorem allP_bad {m : Nat} : ∀ {ls : List (List UInt8)} {k : Nat} {p : List UInt8}, ls[k]? = some p → spP m p = none → allP m ls = none
  | [], k, p, h, _ => by simp at h
  | l :: t, 0, p, h, hp => by
    simp at h
    subst h
    unfold allP
    rw [hp]
  | l :: t, k + 1, p, h, hp => by
    unfold allP
    cases hs : spP m l with
    | none => rfl
    | some b =>
      simp only
      rw [allP_bad (ls := t) (k := k) (by simpa using h) hp]
      rfl
theorem take_step {α : Type} {l : List α} {k : Nat} {a : α} (h : l[k]? = some a) : l.take (k + 1) = l.take k ++ [a] := by
  rw [List.take_add_one, h]; rfl
theorem xO_old (o : List (Nat × Nat)) (a : Nat × Nat) {i : Nat} (h : i < o.length) : xO (o ++ [a]) i = xO o i ∧ yO (o ++ [a]) i = yO o i := by
  unfold xO yO
  simp [List.getD, List.getElem?_append_left h]
theorem xO_new (o : List (Nat × Nat)) (a : Nat × Nat) {k : Nat} (h : k = o.length) : xO (o ++ [a]) k = (a.1 : Int) ∧ yO (o ++ [a]) k = (a.2 : Int) := by
  subst h
  unfold xO yO
  simp
theorem OwnR.congP {base : Nat} {w : World} {v : Value} {n : Nat} {X Y X' Y' : Nat → Int} (h : OwnR base w v n X Y) (hx : ∀ i, i < n → X i = X' i) (hy : ∀ i, i < n → Y i = Y' i) : OwnR base w v n X' Y' := by
  unfold OwnR at h ⊢
  rw [← cells2_cong hx hy]
  exact h
/-- What a reading of a chart hands back. -/
def AnsP (w : World) (o : Option (List (Nat × Nat))) (e : Ending) (w' : World) : Prop := AnsSB w (o.getD []).length (xO (o.getD [])) (yO (o.getD [])) o.isSome e w'
theorem AnsP.nil {w w' : World} (hb : Below w.heap.size w w') : AnsP w none (.returned (.tuple #[.slice none 0 0, .bool false])) w' := AnsSB.nil hb
theorem Strs.at {w : World} {A : Option Addr} {n c : Nat} {ls : List (List UInt8)} (h : Strs w (.slice A n c) ls) {k : Nat} {p : List UInt8} (hp : ls[k]? = some p) : ∃ b o, A = some ⟨b, o, none⟩ ∧ w.cell? ⟨b, o + k, none⟩ = some (.string (bS p)) := by
  obtain ⟨A', c', e, hc, hr⟩ := h
  cases e
  obtain ⟨b, o, rfl, hx⟩ := hr (by have := (List.getElem?_eq_some_iff.1 hp).1; omega)
  exact ⟨b, o, rfl, hx k p hp⟩
theorem lines_len {l : List UInt8} {ls : List (List UInt8)} (h : linesR l = some ls) {k : Nat} {p : List UInt8} (hp : ls[k]? = some p) : p.length ≤ l.length := by
  have key : ∀ (b : UInt8) (l : List UInt8) (p : List UInt8), p ∈ splitL b l → p.length ≤ l.length := by
    intro b l
    induction l with
    | nil => intro p hp; simp [splitL] at hp; subst hp; simp
    | cons c l ih =>
      intro p hp
      rw [splitL_cons] at hp
      split at hp
      · rcases List.mem_cons.1 hp with rfl | hp
        · simp
        · have := ih p hp; simp; omega
      · split at hp
        · rename_i hs; exact absurd hs (splitL_ne _ _)
        · rename_i x t hs
          rcases List.mem_cons.1 hp with rfl | hp
          · have := ih x (by rw [hs]; simp); simp; omega
          · have := ih p (by rw [hs]; simp [hp]); simp; omega
  have hm := List.mem_of_getElem? hp
  unfold linesR at h
  split at h
  · obtain rfl := Option.some.inj h; simp at hm
  · split at h
    · obtain rfl := Option.some.inj h
      have := key _ _ _ hm
      simp at this; omega
    · cases h
set_option maxRecDepth 100000 in
set_option maxHeartbeats 2000000 in
theorem parseChart_none (l : List UInt8) (w : World) (hl : l.length ≤ 1048576) (hm : MaxW w) (h : linesR l = none) : Calls Tryz.prog 19 #[.string (bS l)] w (AnsP w (implR l)) := by
  have HL := Lib.hid (linesOf_s l w hl hm)
  rw [h] at HL
  have HD := Lib.hid (show implR l = none by unfold implR; rw [h])
  clear h hm
  go_enter Tryz.func19, Tryz.ntmps19
  go_wp2_with (go_at_call 37; refine (HL.out).mono ?_; rintro e w1 ⟨rfl, hb⟩)
  go_ret2
  rw [HD.out]
  exact AnsP.nil hb
set_option maxRecDepth 100000 in
set_option maxHeartbeats 2000000 in
theorem parseChart_many (l : List UInt8) (w : World) (hl : l.length ≤ 1048576) (hm : MaxW w) (ls : List (List UInt8)) (h : linesR l = some ls) (hn : 12 < ls.length) : Calls Tryz.prog 19 #[.string (bS l)] w (AnsP w (implR l)) := by
  have HL := Lib.hid (linesOf_s l w hl hm)
  rw [h] at HL
  have HD := Lib.hid (show implR l = none by unfold implR; rw [h]; simp only; rw [if_pos hn])
  have j : (12 : Int) < (ls.length : Int) := by omega
  clear h hm hn
  go_enter Tryz.func19, Tryz.ntmps19
  go_wp2_with (go_at_call 37; refine (HL.out).mono ?_)
  rintro e w1 ⟨v, rfl, ⟨A, c, rfl, _, _⟩, hb⟩
  generalize ls.length = n at *
  go_wp2_with fail
  go_ret2
  rw [HD.out]
  exact AnsP.nil hb
set_option maxRecDepth 100000 in
set_option maxHeartbeats 4000000 in
theorem parseChart_some (l : List UInt8) (w : World) (hl : l.length ≤ 1048576) (hm : MaxW w) (ls : List (List UInt8)) (h : linesR l = some ls) (hn : ls.length ≤ 12) : Calls Tryz.prog 19 #[.string (bS l)] w (AnsP w (implR l)) := by
  have HL := Lib.hid (linesOf_s l w hl hm)
  rw [h] at HL
  have HI : implR l = match allP 9 ls with
      | none => none
      | some o => if goodO o = true then some o else none := by unfold implR; rw [h]; simp only; rw [if_neg (by omega)]; rfl
  replace HI := Lib.hid HI
  have HB := Lib.hid (fun k p => lines_len h (k := k) (p := p))
  clear h
  go_enter Tryz.func19, Tryz.ntmps19
  go_wp2_with (go_at_call 37; refine (HL.out).mono ?_)
  rintro e w1 ⟨v, rfl, hs, hb⟩
  obtain ⟨A, c, rfl, hc, hr⟩ := hs
  have HS := Lib.hid (show Strs w1 (.slice A ls.length c) ls from ⟨A, c, rfl, hc, hr⟩)
  clear hr
  obtain ⟨n, hnn⟩ : ∃ n, n = ls.length := ⟨_, rfl⟩
  have HN := Lib.hid hnn
  rw [← hnn] at hn hc HS ⊢
  have j : ¬ (12 : Int) < (n : Int) := by omega
  clear hnn
  go_wp2_with fail
  go_loopw [6, 26] (fun v i wr => ∃ (k : Nat) (o : List (Nat × Nat)), k ≤ n ∧ i = .int .i64 k ∧ o.length = k ∧ allP 9 (ls.take k) = some o ∧ OwnR w1.heap.size wr v k (xO o) (yO o) ∧ Below w1.heap.size w1 wr) (fun _ i _ => n - (intOf i).toNat)
  case atStart => exact ⟨0, [], by omega, rfl, rfl, rfl, OwnR.empty (Nat.le_refl _) _ _, below_alloc _ _⟩
  case round =>
    obtain ⟨k, o, hk, rfl, hok, hall, how, hbr⟩ := hrel
    have HA := Lib.hid hall
    have HO := Lib.hid hok
    have hbw := up_trans hb hbr
    clear hall hok
    by_cases hlt : k < n
    · obtain ⟨p, hp⟩ : ∃ p, ls[k]? = some p := ⟨ls[k]'(by rw [← HN.out]; exact hlt), List.getElem?_eq_getElem _⟩
      obtain ⟨b, q, rfl, hx⟩ := HS.out.at hp
      have hx1 := up_keep hbr hx
      have hpl : p.length ≤ 1048576 := by have := HB.out k p hp; omega
      have HP := Lib.hid (parseSpot_s p wr hpl (hm.up hbw))
      have HQ := Lib.hid hp
      clear hx hp hpl
      cases hsp : spP 9 p with
      | none =>
        rw [hsp, show spV none = .tuple #[.agg #[.int .i64 0, .int .i64 0], .bool false] from rfl] at HP
        have HF := Lib.hid (allP_bad HQ.out hsp)
        clear hsp
        go_wp2_with (go_at_call 38; refine (HP.out).mono ?_; rintro e w2 ⟨rfl, hb2⟩)
        go_ret2
        rw [HI.out, HF.out]
        exact AnsP.nil (by (repeat (first | with_reducible exact Below.refl _ _ | with_reducible assumption | with_reducible refine up_alloc ?_ _ | with_reducible refine up_drew ?_ | with_reducible refine up_drewN ?_ _ | (with_reducible refine up_set ?_ ?hset _; case hset => first | (simp; done) | (simp; omega) | omega) | with_reducible refine up_trans ?_ (by with_reducible assumption))))
      | some a =>
        obtain ⟨x, y⟩ := a
        rw [hsp, show spV (some (x, y)) = .tuple #[.agg #[.int .i64 (x : Int), .int .i64 (y : Int)], .bool true] from rfl] at HP
        have HF := Lib.hid (show allP 9 (ls.take (k + 1)) = some (o ++ [(x, y)]) by rw [take_step HQ.out]; exact allP_snoc hsp HA.out)
        have hX := (xO_new o (x, y) (k := k) HO.out.symm).1
        have hY := (xO_new o (x, y) (k := k) HO.out.symm).2
        replace how := how.congP (X' := xO (o ++ [(x, y)])) (Y' := yO (o ++ [(x, y)])) (fun i hi => (xO_old o (x, y) (by rw [HO.out]; exact hi)).1.symm) (fun i hi => (xO_old o (x, y) (by rw [HO.out]; exact hi)).2.symm)
        obtain ⟨U, hU⟩ : ∃ U, U = xO (o ++ [(x, y)]) := ⟨_, rfl⟩
        obtain ⟨V, hV⟩ : ∃ V, V = yO (o ++ [(x, y)]) := ⟨_, rfl⟩
        rw [← hU] at hX how
        rw [← hV] at hY how
        have HU := Lib.hid hU
        have HV := Lib.hid hV
        clear hsp hU hV
        go_wp2_with (first | (go_at_call 38; refine (HP.out).mono ?_; rintro e w2 ⟨rfl, hb2⟩) | (at_builtin; refine wpList_app_spot_e rfl (.tmp 37) (.tmp 39) rfl w1.heap.size _ k U V rfl rfl (by simp) (how.up (by (repeat (first | with_reducible exact Below.refl _ _ | with_reducible assumption | with_reducible refine up_alloc ?_ _ | with_reducible refine up_drew ?_ | with_reducible refine up_drewN ?_ _ | (with_reducible refine up_set ?_ ?hset _; case hset => first | (simp; done) | (simp; omega) | omega) | with_reducible refine up_trans ?_ (by with_reducible assumption))))) (show Below w1.heap.size w1 _ from (by (repeat (first | with_reducible exact Below.refl _ _ | with_reducible assumption | with_reducible refine up_alloc ?_ _ | with_reducible refine up_drew ?_ | with_reducible refine up_drewN ?_ _ | (with_reducible refine up_set ?_ ?hset _; case hset => first | (simp; done) | (simp; omega) | omega) | with_reducible refine up_trans ?_ (by with_reducible assumption))))).size (by omega) hX hY ?_; intro v2 w2 ho2 hb2))
        go_roundw
        case rel => exact ⟨k + 1, o ++ [(x, y)], by omega, by go_num, by simp [HO.out], HF.out, by rw [← HU.out, ← HV.out]; exact ho2, (show Below w1.heap.size w1 _ from (by (repeat (first | with_reducible exact Below.refl _ _ | with_reducible assumption | with_reducible refine up_alloc ?_ _ | with_reducible refine up_drew ?_ | with_reducible refine up_drewN ?_ _ | (with_reducible refine up_set ?_ ?hset _; case hset => first | (simp; done) | (simp; omega) | omega) | with_reducible refine up_trans ?_ (by with_reducible assumption))))).trans hb2⟩
        case measure => simp [intOf]; omega
    · have e : k = n := by omega
      subst e
      have hT := HA.out
      rw [List.take_of_length_le (by rw [← HN.out]; exact Nat.le_refl _)] at hT
      have HT := Lib.hid hT
      clear hT
      obtain ⟨A', c', rfl, hc', hcm⟩ := how.shape
      have HW := Lib.hid how
      clear how
      cases hg : goodO o with
      | false =>
        have HG := Lib.hid (asForm_s _ k _ _ wr HW.out.ownS.spots (by omega))
        rw [show chartB k (xO o) (yO o) = false by rw [← HO.out]; exact hg] at HG
        rw [show (if false = true then Value.slice A' k c' else .slice none 0 0) = .slice none 0 0 from rfl] at HG
        have HD := Lib.hid (show implR l = none by rw [HI.out, HT.out]; simp only; rw [if_neg (by rw [hg]; decide)])
        clear hg
        go_wp2_with (go_at_call 39; refine (HG.out).mono ?_; rintro e w2 ⟨rfl, hb2⟩)
        go_ret2
        rw [HD.out]
        exact AnsP.nil (by (repeat (first | with_reducible exact Below.refl _ _ | with_reducible assumption | with_reducible refine up_alloc ?_ _ | with_reducible refine up_drew ?_ | with_reducible refine up_drewN ?_ _ | (with_reducible refine up_set ?_ ?hset _; case hset => first | (simp; done) | (simp; omega) | omega) | with_reducible refine up_trans ?_ (by with_reducible assumption))))
      | true =>
        have HG := Lib.hid (asForm_s _ k _ _ wr HW.out.ownS.spots (by omega))
        rw [show chartB k (xO o) (yO o) = true by rw [← HO.out]; exact hg] at HG
        rw [show (if true = true then Value.slice A' k c' else .slice none 0 0) = .slice A' k c' from rfl] at HG
        have HD := Lib.hid (show implR l = some o by rw [HI.out, HT.out]; simp only; rw [if_pos hg])
        clear hg
        go_wp2_with (go_at_call 39; refine (HG.out).mono ?_; rintro e w2 ⟨rfl, hb2⟩)
        go_ret2
        rw [HD.out]
        have ho := HW.out.ownS.up hb2
        rw [← HO.out] at ho
        have ho := ho.more hb.size
        exact ⟨_, by rw [HO.out]; rfl, ho, by (repeat (first | with_reducible exact Below.refl _ _ | with_reducible assumption | with_reducible refine up_alloc ?_ _ | with_reducible refine up_drew ?_ | with_reducible refine up_drewN ?_ _ | (with_reducible refine up_set ?_ ?hset _; case hset => first | (simp; done) | (simp; omega) | omega) | with_reducible refine up_trans ?_ (by with_reducible assumption)))⟩
theorem parseChart_s (l : List UInt8) (w : World) (hl : l.length ≤ 1048576) (hm : MaxW w) : Calls Tryz.prog 19 #[.string (bS l)] w (AnsP w (implR l)) := by
  cases h : linesR l with
  | none => exact parseChart_none l w hl hm h
  | some ls =>
    by_cases hn : 12 < ls.length
    · exact parseChart_many l w hl hm ls h hn
    · exact parseChart_some l w hl hm ls h (by omega)
end Go.Proofs.YtbfhfjpfjkdcfaaGreatDoor
