/-
  Both sides read a number.
-/
import Derived.Test.YtbfhfjpfjkdcfaaDoorRows
import Derived.Test.YtbfhfjpfjkdcfaaDoorBase
import Derived.Test.YtbfhfjpfjkdcfaaDoorSpot
import Derived.Test.YtbfhfjpfjkdcfaaDoorTxtP
import Derived.Test.YtbfhfjpfjkdcfaaDoorPrsP
import Derived.Laws.Strings
namespace Go.Proofs.YtbfhfjpfjkdcfaaDoor
open Go.RowKit Go.ChangeShapes Go.WideShapes Go.Sort

def natV (o : Option Nat) : Value := .tuple #[.int .i64 ((o.getD 0 : Nat) : Int), .bool o.isSome]
def rdV (o : Option Nat) : Int := match o with
  | some n => n
  | none => -1
theorem bS_get (l : List UInt8) (k : Nat) (c : UInt8) (h : l[k]? = some c) (hk : k < (bS l).size) : (bS l)[k]'hk = c := by
  have h2 : k < l.length := by rw [bS_size] at hk; exact hk
  rw [List.getElem?_eq_getElem h2] at h
  rw [← Option.some.inj h]
  rfl
theorem bS_list (l : List UInt8) : (bS l).toList = l := by
  rw [show (bS l).toList = (bS l).data.toList from ByteArray.toList_eq ..]
  rfl
theorem take_snoc (l : List UInt8) (k : Nat) (c : UInt8) (h : l[k]? = some c) : l.take (k + 1) = l.take k ++ [c] := by
  rw [List.take_add_one, h]; rfl
set_option maxRecDepth 100000 in
set_option maxHeartbeats 2000000 in
theorem natural_s (l : List UInt8) (w : World) (hl : l.length ≤ 1048576) : Calls Tryd.prog 42 #[.string (bS l)] w (Ans w (natV (natB 9 l))) := by
  have hN : natB 9 l = if (1 ≤ l.length ∧ l.length ≤ 9) ∧ ¬ (1 < l.length ∧ l.head? = some 48) ∧ l.all isDig = true then some (valL l) else none := rfl
  obtain ⟨n, hn⟩ : ∃ n, n = l.length := ⟨_, rfl⟩
  have hsz := bS_size l
  rw [← hn] at hsz hN hl
  have hno : ∀ w', Below w.heap.size w w' → natB 9 l = none → Ans w (natV (natB 9 l)) (.returned (.tuple #[.int .i64 0, .bool false])) w' := fun w' hb h => by rw [h]; exact ⟨rfl, hb⟩
  by_cases h0 : n = 0
  · have : l = [] := List.length_eq_zero_iff.1 (by omega)
    subst this
    have hE : (bS []).toList = [] := bS_list []
    have hE2 : (bS []).toList.isEmpty = true := by rw [hE]; rfl
    have HF := Lib.hid (show natB 9 [] = none by rw [hN, if_neg (by omega)])
    clear hN
    go_enter Tryd.func42, Tryd.ntmps42
    go_wp2_with fail
    go_ret2
    exact hno _ (Below.refl _ _) HF.out
  · have hl0 : l ≠ [] := fun h => by subst h; simp at hn; omega
    have hE : ¬ (bS l).toList = [] := by rw [bS_list]; exact hl0
    have hE2 : (bS l).toList.isEmpty = false := by rw [bS_list]; cases l with
      | nil => exact absurd rfl hl0
      | cons a t => rfl
    by_cases h9 : n ≤ 9
    · obtain ⟨c0, hc0⟩ : ∃ c, l[0]? = some c := ⟨l[0]'(by omega), List.getElem?_eq_getElem _⟩
      have hg0 : ∀ h, (bS l)[0]'h = c0 := fun h => bS_get l 0 c0 hc0 h
      have hhd : l.head? = some c0 := by rw [List.head?_eq_getElem?]; exact hc0
      by_cases hb : 1 < n ∧ c0 = 48
      · obtain ⟨j1, j2⟩ := hb
        subst j2
        have HF := Lib.hid (show natB 9 l = none by rw [hN, if_neg]; rintro ⟨_, h, _⟩; exact h ⟨j1, hhd⟩)
        clear hN hc0 hhd
        go_enter Tryd.func42, Tryd.ntmps42
        go_wp2_with fail
        go_ret2
        exact hno _ (Below.refl _ _) HF.out
      · have hN2 : natB 9 l = if l.all isDig = true then some (valL l) else none := by
          rw [hN, hhd]
          by_cases hd : l.all isDig = true
          · rw [if_pos hd, if_pos ⟨⟨by omega, h9⟩, fun ⟨a, b⟩ => hb ⟨a, Option.some.inj b⟩, hd⟩]
          · rw [if_neg hd, if_neg (fun h => hd h.2.2)]
        clear hN
        have hcase : (n = 1) ∨ (1 < (n : Int) ∧ ((c0.toNat : Int) == 48) = false) := by
          by_cases h1 : n = 1
          · exact .inl h1
          · refine .inr ⟨by omega, ?_⟩
            have : c0 ≠ 48 := fun h => hb ⟨by omega, h⟩
            have h48 : c0.toNat ≠ 48 := fun h => this (UInt8.toNat.inj h)
            simp; omega
        clear hb hc0 hhd
        have j9 : (n : Int) ≤ 9 := by omega
        have HX := Lib.hid hN2
        have HL := Lib.hid hn
        clear hN2 hn
        rcases hcase with j1 | ⟨j1, j2⟩
        · have j2 : (n : Int) ≤ 1 := by omega
          go_enter Tryd.func42, Tryd.ntmps42
          go_wp2_with fail
          go_loopw [4, 5] (fun a i wr => ∃ k : Nat, k ≤ n ∧ a = .int .i64 ((valL (l.take k) : Nat) : Int) ∧ i = .int .i64 k ∧ (l.take k).all isDig = true ∧ Below w.heap.size w wr) (fun _ i _ => n - (intOf i).toNat)
          case atStart => exact ⟨0, by omega, rfl, rfl, rfl, Below.refl _ _⟩
          case round =>
            obtain ⟨k, hk, rfl, rfl, ha, hb⟩ := hrel
            have hlen := HL.out
            by_cases hlt : k < n
            · obtain ⟨c, hc⟩ : ∃ c, l[k]? = some c := ⟨l[k]'(by omega), List.getElem?_eq_getElem _⟩
              have hgk : ∀ h, (bS l)[k]'h = c := fun h => bS_get l k c hc h
              have hv1 := valL_lt k (l.take k) (by rw [List.length_take]; omega) ha
              have hv2 : valL (l.take k) < 10 ^ 8 := Nat.lt_of_lt_of_le hv1 (Nat.pow_le_pow_right (by omega) (by omega))
              have hsn := take_snoc l k c hc
              have hva : valL (l.take (k + 1)) = 10 * valL (l.take k) + (c.toNat - 48) := by rw [hsn, valL_snoc]
              have hal : (l.take (k + 1)).all isDig = isDig c := by rw [hsn, List.all_append, ha]; simp
              have HVA := Lib.hid hva
              have HAL := Lib.hid hal
              have HA := Lib.hid ha
              have hmem : c ∈ l := List.mem_of_getElem? hc
              generalize valL (l.take k) = v at *
              clear hva hal ha hv1 hsn hc hlen
              by_cases hd : isDig c = true
              · have hd2 : 48 ≤ c.toNat ∧ c.toNat ≤ 57 := by simpa [isDig] using hd
                have d1 : 48 ≤ (c.toNat : Int) := by omega
                have d2 : (c.toNat : Int) ≤ 57 := by omega
                have HD := Lib.hid hd
                have HK := Lib.hid (show (10 * (v : Int) + ((c.toNat : Int) - 48)) = ((10 * v + (c.toNat - 48) : Nat) : Int) by omega)
                clear hd hd2 hmem
                go_wp2_with fail
                go_roundw
                case rel => exact ⟨k + 1, by omega, by rw [HVA.out, ← HK.out], by go_num, by rw [HAL.out]; exact HD.out, hb⟩
                case measure => simp [intOf]; omega
              · have HF := Lib.hid (show natB 9 l = none by rw [HX.out, if_neg]; intro h; exact hd (List.all_eq_true.1 h c hmem))
                have hd2 : (c.toNat : Int) < 48 ∨ (48 ≤ (c.toNat : Int) ∧ 57 < (c.toNat : Int)) := by
                  have : ¬ (48 ≤ c.toNat ∧ c.toNat ≤ 57) := fun h => hd (by simpa [isDig] using h)
                  omega
                clear hd hmem
                rcases hd2 with d1 | ⟨d1, d2⟩
                · go_wp2_with fail
                  go_ret2
                  exact hno _ hb HF.out
                · go_wp2_with fail
                  go_ret2
                  exact hno _ hb HF.out
            · have e : k = n := by omega
              have HF := Lib.hid (show natB 9 l = some (valL (l.take k)) by
                have ht : l.take k = l := by rw [List.take_of_length_le]; omega
                rw [HX.out, if_pos (by rw [← ht]; exact ha), ht])
              generalize valL (l.take k) = v at *
              clear ha hlen
              subst e
              go_wp2_with fail
              go_ret2
              rw [HF.out]
              exact ⟨rfl, hb⟩
        · go_enter Tryd.func42, Tryd.ntmps42
          go_wp2_with fail
          go_loopw [4, 5] (fun a i wr => ∃ k : Nat, k ≤ n ∧ a = .int .i64 ((valL (l.take k) : Nat) : Int) ∧ i = .int .i64 k ∧ (l.take k).all isDig = true ∧ Below w.heap.size w wr) (fun _ i _ => n - (intOf i).toNat)
          case atStart => exact ⟨0, by omega, rfl, rfl, rfl, Below.refl _ _⟩
          case round =>
            obtain ⟨k, hk, rfl, rfl, ha, hb⟩ := hrel
            have hlen := HL.out
            by_cases hlt : k < n
            · obtain ⟨c, hc⟩ : ∃ c, l[k]? = some c := ⟨l[k]'(by omega), List.getElem?_eq_getElem _⟩
              have hgk : ∀ h, (bS l)[k]'h = c := fun h => bS_get l k c hc h
              have hv1 := valL_lt k (l.take k) (by rw [List.length_take]; omega) ha
              have hv2 : valL (l.take k) < 10 ^ 8 := Nat.lt_of_lt_of_le hv1 (Nat.pow_le_pow_right (by omega) (by omega))
              have hsn := take_snoc l k c hc
              have hva : valL (l.take (k + 1)) = 10 * valL (l.take k) + (c.toNat - 48) := by rw [hsn, valL_snoc]
              have hal : (l.take (k + 1)).all isDig = isDig c := by rw [hsn, List.all_append, ha]; simp
              have HVA := Lib.hid hva
              have HAL := Lib.hid hal
              have HA := Lib.hid ha
              have hmem : c ∈ l := List.mem_of_getElem? hc
              generalize valL (l.take k) = v at *
              clear hva hal ha hv1 hsn hc hlen
              by_cases hd : isDig c = true
              · have hd2 : 48 ≤ c.toNat ∧ c.toNat ≤ 57 := by simpa [isDig] using hd
                have d1 : 48 ≤ (c.toNat : Int) := by omega
                have d2 : (c.toNat : Int) ≤ 57 := by omega
                have HD := Lib.hid hd
                have HK := Lib.hid (show (10 * (v : Int) + ((c.toNat : Int) - 48)) = ((10 * v + (c.toNat - 48) : Nat) : Int) by omega)
                clear hd hd2 hmem
                go_wp2_with fail
                go_roundw
                case rel => exact ⟨k + 1, by omega, by rw [HVA.out, ← HK.out], by go_num, by rw [HAL.out]; exact HD.out, hb⟩
                case measure => simp [intOf]; omega
              · have HF := Lib.hid (show natB 9 l = none by rw [HX.out, if_neg]; intro h; exact hd (List.all_eq_true.1 h c hmem))
                have hd2 : (c.toNat : Int) < 48 ∨ (48 ≤ (c.toNat : Int) ∧ 57 < (c.toNat : Int)) := by
                  have : ¬ (48 ≤ c.toNat ∧ c.toNat ≤ 57) := fun h => hd (by simpa [isDig] using h)
                  omega
                clear hd hmem
                rcases hd2 with d1 | ⟨d1, d2⟩
                · go_wp2_with fail
                  go_ret2
                  exact hno _ hb HF.out
                · go_wp2_with fail
                  go_ret2
                  exact hno _ hb HF.out
            · have e : k = n := by omega
              have HF := Lib.hid (show natB 9 l = some (valL (l.take k)) by
                have ht : l.take k = l := by rw [List.take_of_length_le]; omega
                rw [HX.out, if_pos (by rw [← ht]; exact ha), ht])
              generalize valL (l.take k) = v at *
              clear ha hlen
              subst e
              go_wp2_with fail
              go_ret2
              rw [HF.out]
              exact ⟨rfl, hb⟩
    · have j9 : 9 < (n : Int) := by omega
      have HF := Lib.hid (show natB 9 l = none by rw [hN, if_neg (by omega)])
      clear hN
      go_enter Tryd.func42, Tryd.ntmps42
      go_wp2_with fail
      go_ret2
      exact hno _ (Below.refl _ _) HF.out
set_option maxRecDepth 100000 in
set_option maxHeartbeats 1000000 in
theorem l1Read_s (l : List UInt8) (w : World) (hl : l.length ≤ 1048576) : Calls Tryd.prog 47 #[.string (bS l)] w (Ans w (.int .i64 (rdV (natB 6 l)))) := by
  have hN : natB 6 l = if (1 ≤ l.length ∧ l.length ≤ 6) ∧ ¬ (1 < l.length ∧ l.head? = some 48) ∧ l.all isDig = true then some (valL l) else none := rfl
  obtain ⟨n, hn⟩ : ∃ n, n = l.length := ⟨_, rfl⟩
  have hsz := bS_size l
  rw [← hn] at hsz hN hl
  have hno : ∀ w', Below w.heap.size w w' → natB 6 l = none → Ans w (.int .i64 (rdV (natB 6 l))) (.returned (.int .i64 (-1))) w' := fun w' hb h => by rw [h]; exact ⟨rfl, hb⟩
  by_cases h9 : 1 ≤ n ∧ n ≤ 6
  · have hin : inB (n : Int) 1 6 = true := inB_iff.2 ⟨by omega, by omega⟩
    have hin2 : inB ((bS l).size : Int) 1 6 = true := by rw [hsz]; exact hin
    obtain ⟨h0, h9⟩ := h9
    obtain ⟨c0, hc0⟩ : ∃ c, l[0]? = some c := ⟨l[0]'(by omega), List.getElem?_eq_getElem _⟩
    have hg0 : ∀ h, (bS l)[0]'h = c0 := fun h => bS_get l 0 c0 hc0 h
    have hhd : l.head? = some c0 := by rw [List.head?_eq_getElem?]; exact hc0
    have j0 : 0 < (n : Int) := by omega
    by_cases hb : 1 < n ∧ c0 = 48
    · obtain ⟨j1, j2⟩ := hb
      subst j2
      have HF := Lib.hid (show natB 6 l = none by rw [hN, if_neg]; rintro ⟨_, h, _⟩; exact h ⟨j1, hhd⟩)
      clear hN hc0 hhd hn
      go_enter Tryd.func47, Tryd.ntmps47
      go_wp2_with (go_at_call 31; refine (l1In_any _ _ _ _).mono ?_; rintro e w1 ⟨rfl, rfl⟩)
      go_ret
      exact hno _ (Below.refl _ _) HF.out
    · have hN2 : natB 6 l = if l.all isDig = true then some (valL l) else none := by
        rw [hN, hhd]
        by_cases hd : l.all isDig = true
        · rw [if_pos hd, if_pos ⟨⟨by omega, h9⟩, fun ⟨a, b⟩ => hb ⟨a, Option.some.inj b⟩, hd⟩]
        · rw [if_neg hd, if_neg (fun h => hd h.2.2)]
      clear hN
      have hcase : ((n : Int) ≤ 1 ∧ c0 = 48) ∨ ((c0.toNat : Int) == 48) = false := by
        by_cases h1 : c0 = 48
        · exact .inl ⟨by by_cases h2 : n ≤ 1 <;> first | omega | exact absurd ⟨by omega, h1⟩ hb, h1⟩
        · refine .inr ?_
          have h48 : c0.toNat ≠ 48 := fun h => h1 (UInt8.toNat.inj h)
          simp; omega
      clear hb hc0 hhd
      have j9 : (n : Int) ≤ 6 := by omega
      have HX := Lib.hid hN2
      have HL := Lib.hid hn
      clear hN2 hn
      rcases hcase with ⟨j1, j2⟩ | j2
      · subst j2
        go_enter Tryd.func47, Tryd.ntmps47
        go_wp2_with (go_at_call 31; refine (l1In_any _ _ _ _).mono ?_; rintro e w1 ⟨rfl, rfl⟩)
        go_loopw [3, 4] (fun a i wr => ∃ k : Nat, k ≤ n ∧ a = .int .i64 ((valL (l.take k) : Nat) : Int) ∧ i = .int .i64 k ∧ (l.take k).all isDig = true ∧ Below w.heap.size w wr) (fun _ i _ => n - (intOf i).toNat)
        case atStart => exact ⟨0, by omega, rfl, rfl, rfl, Below.refl _ _⟩
        case round =>
          obtain ⟨k, hk, rfl, rfl, ha, hb⟩ := hrel
          have hlen := HL.out
          by_cases hlt : k < n
          · obtain ⟨c, hc⟩ : ∃ c, l[k]? = some c := ⟨l[k]'(by omega), List.getElem?_eq_getElem _⟩
            have hgk : ∀ h, (bS l)[k]'h = c := fun h => bS_get l k c hc h
            have hv1 := valL_lt k (l.take k) (by rw [List.length_take]; omega) ha
            have hv2 : valL (l.take k) < 10 ^ 8 := Nat.lt_of_lt_of_le hv1 (Nat.pow_le_pow_right (by omega) (by omega))
            have hsn := take_snoc l k c hc
            have hva : valL (l.take (k + 1)) = 10 * valL (l.take k) + (c.toNat - 48) := by rw [hsn, valL_snoc]
            have hal : (l.take (k + 1)).all isDig = isDig c := by rw [hsn, List.all_append, ha]; simp
            have HVA := Lib.hid hva
            have HAL := Lib.hid hal
            have HA := Lib.hid ha
            have hmem : c ∈ l := List.mem_of_getElem? hc
            generalize valL (l.take k) = v at *
            clear hva hal ha hv1 hsn hc hlen
            by_cases hd : isDig c = true
            · have hd2 : 48 ≤ c.toNat ∧ c.toNat ≤ 57 := by simpa [isDig] using hd
              have d1 : 48 ≤ (c.toNat : Int) := by omega
              have d2 : (c.toNat : Int) ≤ 57 := by omega
              have HD := Lib.hid hd
              have HK := Lib.hid (show (10 * (v : Int) + ((c.toNat : Int) - 48)) = ((10 * v + (c.toNat - 48) : Nat) : Int) by omega)
              clear hd hd2 hmem
              go_wp2_with fail
              go_roundw
              case rel => exact ⟨k + 1, by omega, by rw [HVA.out, ← HK.out], by go_num, by rw [HAL.out]; exact HD.out, hb⟩
              case measure => simp [intOf]; omega
            · have HF := Lib.hid (show natB 6 l = none by rw [HX.out, if_neg]; intro h; exact hd (List.all_eq_true.1 h c hmem))
              have hd2 : (c.toNat : Int) < 48 ∨ (48 ≤ (c.toNat : Int) ∧ 57 < (c.toNat : Int)) := by
                have : ¬ (48 ≤ c.toNat ∧ c.toNat ≤ 57) := fun h => hd (by simpa [isDig] using h)
                omega
              clear hd hmem
              rcases hd2 with d1 | ⟨d1, d2⟩
              · go_wp2_with fail
                go_ret
                exact hno _ hb HF.out
              · go_wp2_with fail
                go_ret
                exact hno _ hb HF.out
          · have e : k = n := by omega
            have HF := Lib.hid (show natB 6 l = some (valL (l.take k)) by
              have ht : l.take k = l := by rw [List.take_of_length_le]; omega
              rw [HX.out, if_pos (by rw [← ht]; exact ha), ht])
            generalize valL (l.take k) = v at *
            clear ha hlen
            subst e
            go_wp2_with fail
            go_ret
            rw [HF.out]
            exact ⟨rfl, hb⟩
      · go_enter Tryd.func47, Tryd.ntmps47
        go_wp2_with (go_at_call 31; refine (l1In_any _ _ _ _).mono ?_; rintro e w1 ⟨rfl, rfl⟩)
        go_loopw [3, 4] (fun a i wr => ∃ k : Nat, k ≤ n ∧ a = .int .i64 ((valL (l.take k) : Nat) : Int) ∧ i = .int .i64 k ∧ (l.take k).all isDig = true ∧ Below w.heap.size w wr) (fun _ i _ => n - (intOf i).toNat)
        case atStart => exact ⟨0, by omega, rfl, rfl, rfl, Below.refl _ _⟩
        case round =>
          obtain ⟨k, hk, rfl, rfl, ha, hb⟩ := hrel
          have hlen := HL.out
          by_cases hlt : k < n
          · obtain ⟨c, hc⟩ : ∃ c, l[k]? = some c := ⟨l[k]'(by omega), List.getElem?_eq_getElem _⟩
            have hgk : ∀ h, (bS l)[k]'h = c := fun h => bS_get l k c hc h
            have hv1 := valL_lt k (l.take k) (by rw [List.length_take]; omega) ha
            have hv2 : valL (l.take k) < 10 ^ 8 := Nat.lt_of_lt_of_le hv1 (Nat.pow_le_pow_right (by omega) (by omega))
            have hsn := take_snoc l k c hc
            have hva : valL (l.take (k + 1)) = 10 * valL (l.take k) + (c.toNat - 48) := by rw [hsn, valL_snoc]
            have hal : (l.take (k + 1)).all isDig = isDig c := by rw [hsn, List.all_append, ha]; simp
            have HVA := Lib.hid hva
            have HAL := Lib.hid hal
            have HA := Lib.hid ha
            have hmem : c ∈ l := List.mem_of_getElem? hc
            generalize valL (l.take k) = v at *
            clear hva hal ha hv1 hsn hc hlen
            by_cases hd : isDig c = true
            · have hd2 : 48 ≤ c.toNat ∧ c.toNat ≤ 57 := by simpa [isDig] using hd
              have d1 : 48 ≤ (c.toNat : Int) := by omega
              have d2 : (c.toNat : Int) ≤ 57 := by omega
              have HD := Lib.hid hd
              have HK := Lib.hid (show (10 * (v : Int) + ((c.toNat : Int) - 48)) = ((10 * v + (c.toNat - 48) : Nat) : Int) by omega)
              clear hd hd2 hmem
              go_wp2_with fail
              go_roundw
              case rel => exact ⟨k + 1, by omega, by rw [HVA.out, ← HK.out], by go_num, by rw [HAL.out]; exact HD.out, hb⟩
              case measure => simp [intOf]; omega
            · have HF := Lib.hid (show natB 6 l = none by rw [HX.out, if_neg]; intro h; exact hd (List.all_eq_true.1 h c hmem))
              have hd2 : (c.toNat : Int) < 48 ∨ (48 ≤ (c.toNat : Int) ∧ 57 < (c.toNat : Int)) := by
                have : ¬ (48 ≤ c.toNat ∧ c.toNat ≤ 57) := fun h => hd (by simpa [isDig] using h)
                omega
              clear hd hmem
              rcases hd2 with d1 | ⟨d1, d2⟩
              · go_wp2_with fail
                go_ret
                exact hno _ hb HF.out
              · go_wp2_with fail
                go_ret
                exact hno _ hb HF.out
          · have e : k = n := by omega
            have HF := Lib.hid (show natB 6 l = some (valL (l.take k)) by
              have ht : l.take k = l := by rw [List.take_of_length_le]; omega
              rw [HX.out, if_pos (by rw [← ht]; exact ha), ht])
            generalize valL (l.take k) = v at *
            clear ha hlen
            subst e
            go_wp2_with fail
            go_ret
            rw [HF.out]
            exact ⟨rfl, hb⟩
  · have hin : inB (n : Int) 1 6 = false := by
      cases hc : inB (n : Int) 1 6 with
      | false => rfl
      | true => exact absurd (inB_iff.1 hc) (by omega)
    have hin2 : inB ((bS l).size : Int) 1 6 = false := by rw [hsz]; exact hin
    have HF := Lib.hid (show natB 6 l = none by rw [hN, if_neg (by omega)])
    clear hN hn
    go_enter Tryd.func47, Tryd.ntmps47
    go_wp2_with (go_at_call 31; refine (l1In_any _ _ _ _).mono ?_; rintro e w1 ⟨rfl, rfl⟩)
    go_ret
    exact hno _ (Below.refl _ _) HF.out
end Go.Proofs.YtbfhfjpfjkdcfaaDoor
