/-
  The reference splits a string.
-/
import Derived.Test.YtbfhfjpfjkdcfaaDoorRows
import Derived.Test.YtbfhfjpfjkdcfaaDoorBase
import Derived.Test.YtbfhfjpfjkdcfaaDoorSpot
import Derived.Test.YtbfhfjpfjkdcfaaDoorTxtP
import Derived.Test.YtbfhfjpfjkdcfaaDoorPrsP
import Derived.Test.YtbfhfjpfjkdcfaaDoorPrsN
import Derived.OwnWalk
import Derived.Lib.Strings
namespace Go.Proofs.YtbfhfjpfjkdcfaaDoor
open Go.RowKit Go.ChangeShapes Go.WideShapes Go.Sort Go.Proofs

/-- A list of strings in memory. -/
def strV (l : List UInt8) : Value := .string (bS l)
def Strs (w : World) (v : Value) (ls : List (List UInt8)) : Prop := ∃ A c, v = .slice A ls.length c ∧ ls.length ≤ c ∧ (0 < ls.length → ∃ b o, A = some ⟨b, o, none⟩ ∧ ∀ i p, ls[i]? = some p → w.cell? ⟨b, o + i, none⟩ = some (.string (bS p)))
theorem Strs.up {w w' : World} {v : Value} {ls : List (List UInt8)} (h : Strs w v ls) (hb : Below w.heap.size w w') : Strs w' v ls := by
  obtain ⟨A, c, rfl, hc, hr⟩ := h
  exact ⟨A, c, rfl, hc, fun h0 => by obtain ⟨b, o, e, hx⟩ := hr h0; exact ⟨b, o, e, fun i p hi => up_keep hb (hx i p hi)⟩⟩
theorem bS_cut (l : List UInt8) (a b : Nat) : (bS l).extract a b = bS ((l.drop a).take (b - a)) := by
  apply ByteArray.ext
  apply Array.toList_inj.1
  rw [Lib.extract_data]
  rfl
theorem piece (b : UInt8) (l : List UInt8) (f k : Nat) (hf : f ≤ k) (hk : l[k]? = some b) : l.drop f = (l.drop f).take (k - f) ++ b :: l.drop (k + 1) := by
  have h1 : (l.drop f)[k - f]? = some b := by rw [List.getElem?_drop, show f + (k - f) = k by omega]; exact hk
  have h2 : (l.drop f).drop (k - f) = b :: l.drop (k + 1) := by
    rw [List.drop_drop, show f + (k - f) = k by omega, ← List.getElem_cons_drop (List.getElem?_eq_some_iff.1 hk).1]
    rw [(List.getElem?_eq_some_iff.1 hk).2]
  rw [← h2, List.take_append_drop]
theorem piece_more (l : List UInt8) (c : UInt8) (f k : Nat) (hf : f ≤ k) (hk : l[k]? = some c) : (l.drop f).take (k + 1 - f) = (l.drop f).take (k - f) ++ [c] := by
  rw [show k + 1 - f = k - f + 1 by omega]
  exact take_snoc _ _ _ (by rw [List.getElem?_drop, show f + (k - f) = k by omega]; exact hk)
theorem strs_of {w : World} {B : Nat} {e : TypeId} {v : Value} {ls : List (List UInt8)} (h : w.ownsRow B e 1 v ls.length (ls.map strV)) (h0 : ls ≠ []) : Strs w v ls := by
  have hl0 : ls.length ≠ 0 := by simpa using h0
  obtain ⟨g, cap, cur, rfl, hbg, hg, hnc, hcm, hcs, htake⟩ : ∃ g cap cur, v = .slice (some ⟨g, 0, none⟩) ls.length cap ∧ B ≤ g ∧ w.heap[g]? = some (.cells cur e (0, 0)) ∧ ls.length ≤ cap ∧ cap ≤ maxLen ∧ cur.size = cap * 1 ∧ cur.toList.take (ls.length * 1) = ls.map strV := by
    rcases h.2 with ⟨_, hz⟩ | ⟨g, cap, cur, hv, r⟩
    · exact absurd hz hl0
    · exact ⟨g, cap, cur, hv, r⟩
  refine ⟨_, _, rfl, hnc, fun _ => ⟨g, 0, rfl, fun i p hi => ?_⟩⟩
  have hil : i < ls.length := (List.getElem?_eq_some_iff.1 hi).1
  have h1 : (cur.toList.take (ls.length * 1))[i]? = some (.string (bS p)) := by rw [htake, List.getElem?_map, hi]; rfl
  rw [List.getElem?_take_of_lt (by omega)] at h1
  simp only [World.cell?, Nat.zero_add, hg]
  simpa using h1
set_option maxRecDepth 100000 in
set_option maxHeartbeats 2000000 in
theorem l1Split_s (l : List UInt8) (b : UInt8) (w : World) (hl : l.length ≤ 1048576) : Calls Tryd.prog 24 #[.string (bS l), .int .u8 ((b.toNat : Nat) : Int)] w
    (fun e w' => ∃ v, e = .returned v ∧ Strs w' v (splitL b l) ∧ Below w.heap.size w w') := by
  obtain ⟨n, hn⟩ : ∃ n, n = l.length := ⟨_, rfl⟩
  have hsz := bS_size l
  rw [← hn] at hsz hl
  have HN := Lib.hid hn
  obtain ⟨i0, hi, hz0, hz1, hz2⟩ := info_parts (show (Tryd.prog.info? 9).map (fun i => (i.zero, i.size, i.bytes)) = some (some (.string ⟨#[]⟩), 1, 16) by kernel_rfl)
  clear hn
  go_enter Tryd.func24, Tryd.ntmps24
  go_wp2_with fail
  go_loopw [5, 6, 7] (fun v f i wr => ∃ (k fr : Nat) (o : List (List UInt8)), k ≤ n ∧ fr ≤ k ∧ o.length ≤ k ∧ f = .int .i64 fr ∧ i = .int .i64 k ∧ wr.ownsRow w.heap.size 9 1 v o.length (o.map strV) ∧ splitL b l = o ++ splitL b (l.drop fr) ∧ b ∉ (l.drop fr).take (k - fr) ∧ Below w.heap.size w wr) (fun _ _ i _ => n - (intOf i).toNat)
  case atStart => exact ⟨0, 0, [], by omega, by omega, by simp, rfl, rfl, World.ownsRow_nil _ _ _ _, by simp, by simp, Below.refl _ _⟩
  case round =>
    obtain ⟨k, fr, o, hk, hfk, hok, rfl, rfl, how, hsp, hnb, hb⟩ := hrel
    have HSP := Lib.hid hsp
    have HNB := Lib.hid hnb
    have hlen := HN.out
    clear hsp hnb
    by_cases hlt : k < n
    · obtain ⟨c, hc⟩ : ∃ c, l[k]? = some c := ⟨l[k]'(by omega), List.getElem?_eq_getElem _⟩
      have hgk : ∀ h, (bS l)[k]'h = c := fun h => bS_get l k c hc h
      have HC := Lib.hid hc
      clear hc hlen
      by_cases he : c = b
      · subst he
        have hex : (bS l).extract fr k = bS ((l.drop fr).take (k - fr)) := bS_cut l fr k
        go_wp2_with (at_builtin; refine wpList_append_own _ rfl _ _ 34 rfl w.heap.size 9 i0 (.string ⟨#[]⟩) 1 16 Tryd.underlying34 hi hz0 hz1 hz2 rfl (by decide) _ _ _ rfl (how.alloc _) ⟨wr.heap.size, 0, none⟩ 1 1 [.string (bS ((l.drop fr).take (k - fr)))] rfl rfl ?c1 ?c2 ?c3 ?c4 ?c5 ?_)
        case c1 =>
          intro j u hj
          match j, hj with
          | 0, hj => simp at hj; subst hj; exact cell_one_new wr _ _ 0 _ rfl
        case c2 => intro u hu; simp at hu; subst hu; rfl
        case c3 => unfold maxLen; omega
        case c4 => omega
        case c5 => have := hb.size; simp; omega
        intro v' w2 hown' hgrow _
        have hb2 : Below w.heap.size w w2 := (hb.alloc (by have := hb.size; omega) _).grown hgrow (by have := hb.size; simp; omega) (fun k hk => (how.lt k hk).1)
        have HO := Lib.hid hown'
        clear hown' hgrow how
        go_wp2_with fail
        go_roundw
        case rel => exact ⟨k + 1, k + 1, o ++ [(l.drop fr).take (k - fr)], by omega, by omega, by simp; omega, by go_num, by go_num, by have := HO.out; simpa [strV] using this, by
          have h1 := HSP.out
          rw [piece c l fr k hfk HC.out, splitL_hit HNB.out] at h1
          rw [h1]; simp, by simp, hb2⟩
        case measure => simp [intOf]; omega
      · have hne : ((c.toNat : Int) == (b.toNat : Int)) = false := by
          have h48 : c.toNat ≠ b.toNat := fun h => he (UInt8.toNat.inj h)
          simp; omega
        have HE := Lib.hid he
        clear he
        go_wp2_with fail
        go_roundw
        case rel => exact ⟨k + 1, fr, o, by omega, by omega, by omega, rfl, by go_num, how, HSP.out, by rw [piece_more l c fr k hfk HC.out]; simp only [List.mem_append, List.mem_singleton, not_or]; exact ⟨HNB.out, fun h => HE.out h.symm⟩, hb⟩
        case measure => simp [intOf]; omega
    · have e : k = n := by omega
      have hw : (l.drop fr).take (k - fr) = l.drop fr := by rw [List.take_of_length_le]; rw [List.length_drop]; omega
      have HL := Lib.hid (show splitL b l = o ++ [l.drop fr] by
        have h1 := HSP.out
        have h2 := HNB.out
        rw [hw] at h2
        rw [h1, splitL_miss h2])
      have hex : (bS l).extract fr n = bS (l.drop fr) := by rw [bS_cut, ← e, hw]
      clear hw hlen
      subst e
      go_wp2_with (at_builtin; refine wpList_append_own _ rfl _ _ 34 rfl w.heap.size 9 i0 (.string ⟨#[]⟩) 1 16 Tryd.underlying34 hi hz0 hz1 hz2 rfl (by decide) _ _ _ rfl (how.alloc _) ⟨wr.heap.size, 0, none⟩ 1 1 [.string (bS (l.drop fr))] rfl rfl ?c1 ?c2 ?c3 ?c4 ?c5 ?_)
      case c1 =>
        intro j u hj
        match j, hj with
        | 0, hj => simp at hj; subst hj; exact cell_one_new wr _ _ 0 _ rfl
      case c2 => intro u hu; simp at hu; subst hu; rfl
      case c3 => unfold maxLen; omega
      case c4 => omega
      case c5 => have := hb.size; simp; omega
      intro v' w2 hown' hgrow _
      have hb2 : Below w.heap.size w w2 := (hb.alloc (by have := hb.size; omega) _).grown hgrow (by have := hb.size; simp; omega) (fun k hk => (how.lt k hk).1)
      have HO := Lib.hid hown'
      clear hown' hgrow how
      go_wp2_with fail
      go_ret
      refine ⟨_, rfl, ?_, hb2⟩
      rw [HL.out]
      exact strs_of (by have := HO.out; simpa [strV] using this) (by simp)
end Go.Proofs.YtbfhfjpfjkdcfaaDoor
