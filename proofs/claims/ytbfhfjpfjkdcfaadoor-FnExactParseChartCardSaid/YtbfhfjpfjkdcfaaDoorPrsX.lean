/-
  The program takes a text apart into lines.
-/
import Derived.Test.YtbfhfjpfjkdcfaaDoorRows
import Derived.Test.YtbfhfjpfjkdcfaaDoorBase
import Derived.Test.YtbfhfjpfjkdcfaaDoorSpot
import Derived.Test.YtbfhfjpfjkdcfaaDoorTxtP
import Derived.Test.YtbfhfjpfjkdcfaaDoorPrsP
import Derived.Test.YtbfhfjpfjkdcfaaDoorPrsN
import Derived.Test.YtbfhfjpfjkdcfaaDoorPrsS
import Derived.Test.YtbfhfjpfjkdcfaaDoorPrsC
import Derived.Test.YtbfhfjpfjkdcfaaDoorShelf
namespace Go.Proofs.YtbfhfjpfjkdcfaaDoor
open Go.RowKit Go.ChangeShapes Go.WideShapes Go.Sort Go.Proofs

theorem split_lib (b : UInt8) : ∀ (k : Nat) (l : List UInt8), l.length ≤ k → Lib.countB (bS l) ⟨#[b]⟩ + 1 = (splitL b l).length ∧ Lib.splitB ⟨#[b]⟩ 0 (Lib.countB (bS l) ⟨#[b]⟩) (bS l) = (splitL b l).map bS
  | k, l, hk => by
    cases hc : cut1 b l with
    | none =>
      have hi : Lib.indexB (bS l) ⟨#[b]⟩ = -1 := index_none hc
      rw [Lib.countB_miss _ _ hi, Lib.splitB_zero, splitL_miss (cut1_none.1 hc)]
      exact ⟨rfl, rfl⟩
    | some z =>
      obtain ⟨p, q⟩ := z
      have hi : Lib.indexB (bS l) ⟨#[b]⟩ = (p.length : Int) := index_some hc
      obtain ⟨hl, hp⟩ := cut1_some.1 hc
      have hx : (bS l).extract (p.length + (⟨#[b]⟩ : ByteArray).size) (bS l).size = bS q := by
        rw [bS_cut, bS_size, show (⟨#[b]⟩ : ByteArray).size = 1 from rfl, hl]
        congr 1
        rw [show p ++ b :: q = (p ++ [b]) ++ q by simp, List.drop_append_of_le_length (by simp), List.drop_of_length_le (by simp)]
        simp only [List.nil_append, List.length_append, List.length_cons]
        exact List.take_of_length_le (by simp)
      have hx0 : (bS l).extract 0 (p.length + 0) = bS p := by
        rw [bS_cut, hl]
        congr 1
        simp
      match k, hk with
      | 0, hk => rw [hl] at hk; simp at hk
      | k + 1, hk =>
        obtain ⟨h1, h2⟩ := split_lib b k q (by rw [hl] at hk; simp at hk; omega)
        have hs : splitL b l = p :: splitL b q := by rw [hl, splitL_hit hp]
        rw [Lib.countB_hit (bS l) ⟨#[b]⟩ _ (Nat.le_refl 1) hi, hx, hs, Nat.add_comm 1, Lib.splitB_hit _ _ _ _ _ hi, hx, hx0, h2]
        exact ⟨by rw [h1]; rfl, rfl⟩
theorem cells_strs (w : World) (t : TypeId) (ls : List (List UInt8)) : Strs (w.alloc (.cells (((ls.map bS).map Value.string).toArray) t)) (.slice (some ⟨w.heap.size, 0, none⟩) ls.length ls.length) ls := by
  refine ⟨_, _, rfl, Nat.le_refl _, fun _ => ⟨w.heap.size, 0, rfl, fun i p hi => ?_⟩⟩
  unfold World.cell?
  rw [heap_alloc_new]
  simp [hi]
/-- What a reading of lines hands back. -/
def LinA (w : World) (o : Option (List (List UInt8))) (e : Ending) (w' : World) : Prop := match o with
  | some ls => ∃ v, e = .returned (.tuple #[v, .bool true]) ∧ Strs w' v ls ∧ Below w.heap.size w w'
  | none => Ans w (.tuple #[.slice none 0 0, .bool false]) e w'
theorem split_s (b : UInt8) (l : List UInt8) (w : World) (hl : l.length ≤ 1048576) (hm : MaxW w) :
    Calls Tryd.prog 26 #[.string (bS l), .string ⟨#[b]⟩] w (fun e w' => ∃ v, e = .returned v ∧ Strs w' v (splitL b l) ∧ Below w.heap.size w w') := by
  obtain ⟨m, hm⟩ := hm
  refine (Tryd.strings_Split (bS l) ⟨#[b]⟩ m w (by rw [bS_size]; omega) hm (Nat.le_refl 1)).mono ?_
  rintro e w' ⟨rfl, rfl⟩
  obtain ⟨h1, h2⟩ := split_lib b l.length l (Nat.le_refl _)
  rw [h1, h2]
  exact ⟨_, rfl, cells_strs _ _ _, below_alloc _ _⟩
set_option maxRecDepth 100000 in
set_option maxHeartbeats 2000000 in
theorem linesOf_nil (w : World) : Calls Tryd.prog 15 #[.string (bS [])] w (LinA w (some [])) := by
  have hE : (bS []).toList.isEmpty = true := by rw [bS_list]; rfl
  go_enter Tryd.func15, Tryd.ntmps15
  go_wp2_with fail
  go_ret2
  exact ⟨_, rfl, ⟨_, _, rfl, Nat.le_refl _, fun h => absurd h (by simp)⟩, by (repeat (first | with_reducible exact Below.refl _ _ | with_reducible assumption | with_reducible refine up_alloc ?_ _ | with_reducible refine up_drew ?_ | with_reducible refine up_drewN ?_ _ | (with_reducible refine up_set ?_ ?hset _; case hset => first | (simp; done) | (simp; omega) | omega) | with_reducible refine up_trans ?_ (by with_reducible assumption)))⟩
set_option maxRecDepth 100000 in
set_option maxHeartbeats 2000000 in
theorem linesOf_end (l : List UInt8) (w : World) (hl : l.length ≤ 1048575) (hm : MaxW w) : Calls Tryd.prog 15 #[.string (bS (l ++ [10]))] w (LinA w (some (splitL 10 l))) := by
  have HS := Lib.hid (split_s 10 l w (by omega) hm)
  have hsz := bS_size (l ++ [10])
  obtain ⟨n, hn⟩ : ∃ n, n = l.length := ⟨_, rfl⟩
  rw [show (l ++ [10] : List UInt8).length = n + 1 from by simp [hn]] at hsz
  have hg : ∀ h, (bS (l ++ [10]))[n]'h = 10 := fun h => bS_get (l ++ [10]) n 10 (by rw [hn]; simp) h
  have hx : (bS (l ++ [10])).extract 0 n = bS l := by rw [bS_cut, hn]; congr 1; simp
  have hne : (bS (l ++ [10])).toList.isEmpty = false := by rw [bS_list]; simp
  rw [← hn] at hl
  clear hn hm
  generalize bS (l ++ [10]) = s at *
  go_enter Tryd.func15, Tryd.ntmps15
  go_wp2_with (go_at_call 26; refine (HS.out).mono ?_; rintro e w1 ⟨v, rfl, hs, hb⟩)
  go_ret2
  exact ⟨_, rfl, hs, hb⟩
set_option maxRecDepth 100000 in
set_option maxHeartbeats 2000000 in
theorem linesOf_bad (l : List UInt8) (c : UInt8) (w : World) (hl : l.length ≤ 1048575) (hc : c ≠ 10) : Calls Tryd.prog 15 #[.string (bS (l ++ [c]))] w (LinA w none) := by
  have hsz := bS_size (l ++ [c])
  obtain ⟨n, hn⟩ : ∃ n, n = l.length := ⟨_, rfl⟩
  rw [show (l ++ [c] : List UInt8).length = n + 1 from by simp [hn]] at hsz
  have hg : ∀ h, (bS (l ++ [c]))[n]'h = c := fun h => bS_get (l ++ [c]) n c (by rw [hn]; simp) h
  have hne : (bS (l ++ [c])).toList.isEmpty = false := by rw [bS_list]; simp
  have h10 : ¬ (c.toNat : Int) = 10 := fun h => hc (UInt8.toNat.inj (show c.toNat = (10 : UInt8).toNat by have : (10 : UInt8).toNat = 10 := rfl; omega))
  rw [← hn] at hl
  clear hn hc
  generalize bS (l ++ [c]) = s at *
  go_enter Tryd.func15, Tryd.ntmps15
  go_wp2_with fail
  go_ret2
  exact ⟨rfl, by (repeat (first | with_reducible exact Below.refl _ _ | with_reducible assumption | with_reducible refine up_alloc ?_ _ | with_reducible refine up_drew ?_ | with_reducible refine up_drewN ?_ _ | (with_reducible refine up_set ?_ ?hset _; case hset => first | (simp; done) | (simp; omega) | omega) | with_reducible refine up_trans ?_ (by with_reducible assumption)))⟩
theorem linesOf_s (l : List UInt8) (w : World) (hl : l.length ≤ 1048576) (hm : MaxW w) : Calls Tryd.prog 15 #[.string (bS l)] w (LinA w (linesR l)) := by
  rcases List.eq_nil_or_concat l with rfl | ⟨t, c, rfl⟩
  · exact linesOf_nil w
  · simp only [List.concat_eq_append] at hl ⊢
    have ht : t.length ≤ 1048575 := by simp at hl; omega
    by_cases hc : c = 10
    · subst hc
      rw [show linesR (t ++ [10]) = some (splitL 10 t) by unfold linesR; rw [if_neg (by simp), if_pos (by simp)]; simp]
      exact linesOf_end t w ht hm
    · rw [show linesR (t ++ [c]) = none by unfold linesR; rw [if_neg (by simp), if_neg (by simpa using hc)]]
      exact linesOf_bad t c w ht hc
end Go.Proofs.YtbfhfjpfjkdcfaaDoor
