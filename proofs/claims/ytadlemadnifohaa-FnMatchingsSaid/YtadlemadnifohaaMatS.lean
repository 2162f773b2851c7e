/-
  Valid costs, opened; sums of matchings, certificates.
-/
import Derived.Test.YtadlemadnifohaaRows
import Derived.Test.YtadlemadnifohaaBase
import Derived.Test.YtadlemadnifohaaSpot
import Derived.Test.YtadlemadnifohaaSlice
import Derived.Test.YtadlemadnifohaaLawS
import Derived.Test.YtadlemadnifohaaMark
import Derived.Test.YtadlemadnifohaaInts
import Derived.Test.YtadlemadnifohaaIntsL
import Derived.Test.YtadlemadnifohaaTurned
import Derived.Test.YtadlemadnifohaaTrans
import Derived.Test.YtadlemadnifohaaMatch
import Derived.Test.YtadlemadnifohaaRowsI
import Derived.Test.YtadlemadnifohaaCosts
import Derived.Deep.QuietTactic
namespace Go.Proofs.Ytadlemadnifohaa
open Go.RowKit Go.ChangeShapes Go.WideShapes Go.Sort

/-- From ⟨b, o⟩ on lie n rows of n numbers; the i-th lies from ⟨B i, O i⟩ on. -/
structure MatAt (w : World) (b o n : Nat) (F : Nat → Nat → Int) (B O C : Nat → Nat) : Prop where
  row : ∀ i, i < n → w.cell? ⟨b, o + i, none⟩ = some (.slice (some ⟨B i, O i, none⟩) n (C i))
  num : ∀ i, i < n → Row1 w (B i) (O i) n (F i)
theorem MatAt.up {w w' : World} {b o n : Nat} {F : Nat → Nat → Int} {B O C : Nat → Nat} (h : MatAt w b o n F B O C) (hb : Below w.heap.size w w') : MatAt w' b o n F B O C :=
  ⟨fun i hi => up_keep hb (h.row i hi), fun i hi => (h.num i hi).up hb⟩
theorem MatAt.at {w : World} {b o n : Nat} {F : Nat → Nat → Int} {B O C : Nat → Nat} (h : MatAt w b o n F B O C) {i k : Nat} (hi : i < n) (hk : k < n) : w.cell? ⟨B i, O i + k, none⟩ = some (.int .i64 (F i k)) := h.num i hi k hk
theorem mat_of {w : World} {v : Value} {n : Nat} {R : Nat → Nat} {F : Nat → Nat → Int} (h : IRows w v n R F) (hv : acB n R F = true) :
    ∃ b o c B O C, v = .slice (some ⟨b, o, none⟩) n c ∧ MatAt w b o n F B O C := by
  obtain ⟨⟨h1, _⟩, h2, _⟩ := acB_iff hv
  obtain ⟨A, c, V, rfl, hnc, hr, hf⟩ := h
  obtain ⟨b, o, rfl, hrq⟩ := hr (by omega)
  have key : ∀ i, ∃ q : Nat × Nat × Nat, i < n → V i = .slice (some ⟨q.1, q.2.1, none⟩) n q.2.2 ∧ Row1 w q.1 q.2.1 n (F i) := fun i => by
    by_cases hi : i < n
    · obtain ⟨A', c', e, _, hrr⟩ := hf i hi
      rw [h2 i hi] at e hrr
      obtain ⟨b', o', rfl, hrq⟩ := hrr (by omega)
      exact ⟨(b', o', c'), fun _ => ⟨e, hrq⟩⟩
    · exact ⟨(0, 0, 0), fun h => absurd h hi⟩
  obtain ⟨G, hG⟩ := Classical.axiomOfChoice key
  exact ⟨b, o, c, fun i => (G i).1, fun i => (G i).2.1, fun i => (G i).2.2, rfl, fun i hi => by rw [hrq i hi, (hG i hi).1], fun i hi => (hG i hi).2⟩
/-- The sum of the first k rows' costs at the places P. -/
def sumP (F : Nat → Nat → Int) (P : Nat → Int) : Nat → Int
  | 0 => 0
  | k + 1 => sumP F P k + F k (P k).toNat
theorem sumP_bd {F : Nat → Nat → Int} {P : Nat → Int} {n : Nat} (hF : ∀ i k, i < n → k < n → 0 ≤ F i k ∧ F i k ≤ 2100000) (hP : ∀ i, i < n → 0 ≤ P i ∧ P i < n) : ∀ k, k ≤ n → 0 ≤ sumP F P k ∧ sumP F P k ≤ 2100000 * k
  | 0, _ => by simp [sumP]
  | k + 1, hk => by
    have := sumP_bd hF hP k (by omega)
    have h2 := hP k (by omega)
    have := hF k (P k).toNat (by omega) (by omega)
    simp only [sumP]
    omega
theorem mt_places {n l : Nat} {P : Nat → Int} (h : mtB n l P = true) : l = n ∧ ∀ i, i < n → 0 ≤ P i ∧ P i < n := by
  simp only [mtB, Bool.and_eq_true, beq_iff_eq] at h
  obtain ⟨h1, rfl⟩ := h
  refine ⟨rfl, fun i hi => ?_⟩
  have := allB_iff.1 h1 i hi
  simp only [Bool.and_eq_true] at this
  have := inB_iff.1 this.1
  omega
set_option maxRecDepth 100000 in
set_option maxHeartbeats 2000000 in
theorem sumOf_g (v u : Value) (n : Nat) (R : Nat → Nat) (F : Nat → Nat → Int) (P : Nat → Int) (w : World) (h : IRows w v n R F) (hv : acB n R F = true) (hu : Ints w u n P) (hP : ∀ i, i < n → 0 ≤ P i ∧ P i < n) :
    Calls Try.prog 34 #[v, u] w (Ans w (.int .i64 (sumP F P n))) := by
  obtain ⟨⟨n1, n12⟩, _, hF⟩ := acB_iff hv
  obtain ⟨b, o, c, B, O, C, rfl, hM⟩ := mat_of h hv
  obtain ⟨A2, c2, rfl, _, hr2⟩ := hu
  obtain ⟨b2, o2, rfl, hrq⟩ := hr2 (by omega)
  have HM := Lib.hid hM
  have HR2 := Lib.hid hrq
  have HF := Lib.hid hF
  have HP := Lib.hid hP
  clear h hv hM hr2 hrq hF hP
  go_enter Try.func34, Try.ntmps34
  go_wp2_with fail
  go_loop [5, 10] (fun s i => ∃ k : Nat, k ≤ n ∧ i = .int .i64 k ∧ s = .int .i64 (sumP F P k)) (fun _ i => n - (intOf i).toNat)
  case atStart => exact ⟨0, by omega, rfl, rfl⟩
  case round =>
    obtain ⟨k, hk, rfl, rfl⟩ := hrel
    by_cases hlt : k < n
    · obtain ⟨j, hj⟩ : ∃ j : Nat, P k = j := ⟨(P k).toNat, by have := HP.out k hlt; omega⟩
      have hjn : j < n := by have := HP.out k hlt; omega
      have c0 := HR2.out k hlt
      rw [hj] at c0
      have c1 := HM.out.row k hlt
      have c3 := HM.out.at hlt hjn
      have hs := sumP_bd HF.out HP.out k hk
      have hf := HF.out k j hlt hjn
      have HS := Lib.hid (show sumP F P (k + 1) = sumP F P k + F k j by show sumP F P k + F k (P k).toNat = _; rw [show (P k).toNat = j by omega])
      clear hj
      go_wp2_with fail
      go_round
      case rel => exact ⟨k + 1, by omega, by go_num, by rw [HS.out]⟩
      case measure => simp [intOf]; omega
    · have e : k = n := by omega
      subst e
      go_wp2_with fail
      go_ret
      exact ⟨rfl, Below.refl _ _⟩
set_option maxRecDepth 100000 in
set_option maxHeartbeats 2000000 in
theorem maSum_g (v u : Value) (n : Nat) (R : Nat → Nat) (F : Nat → Nat → Int) (P : Nat → Int) (w : World) (h : IRows w v n R F) (hv : acB n R F = true) (hu : Ints w u n P) (hP : ∀ i, i < n → 0 ≤ P i ∧ P i < n) :
    Calls Try.prog 39 #[v, u] w (Ans w (.int .i64 (sumP F P n))) := by
  obtain ⟨⟨n1, n12⟩, _, hF⟩ := acB_iff hv
  obtain ⟨b, o, c, B, O, C, rfl, hM⟩ := mat_of h hv
  obtain ⟨A2, c2, rfl, _, hr2⟩ := hu
  obtain ⟨b2, o2, rfl, hrq⟩ := hr2 (by omega)
  have HM := Lib.hid hM
  have HR2 := Lib.hid hrq
  have HF := Lib.hid hF
  have HP := Lib.hid hP
  clear h hv hM hr2 hrq hF hP
  go_enter Try.func39, Try.ntmps39
  go_wp2_with fail
  go_loop [5, 10] (fun s i => ∃ k : Nat, k ≤ n ∧ i = .int .i64 k ∧ s = .int .i64 (sumP F P k)) (fun _ i => n - (intOf i).toNat)
  case atStart => exact ⟨0, by omega, rfl, rfl⟩
  case round =>
    obtain ⟨k, hk, rfl, rfl⟩ := hrel
    by_cases hlt : k < n
    · obtain ⟨j, hj⟩ : ∃ j : Nat, P k = j := ⟨(P k).toNat, by have := HP.out k hlt; omega⟩
      have hjn : j < n := by have := HP.out k hlt; omega
      have c0 := HR2.out k hlt
      rw [hj] at c0
      have c1 := HM.out.row k hlt
      have c3 := HM.out.at hlt hjn
      have hs := sumP_bd HF.out HP.out k hk
      have hf := HF.out k j hlt hjn
      have HS := Lib.hid (show sumP F P (k + 1) = sumP F P k + F k j by show sumP F P k + F k (P k).toNat = _; rw [show (P k).toNat = j by omega])
      clear hj
      go_wp2_with fail
      go_round
      case rel => exact ⟨k + 1, by omega, by go_num, by rw [HS.out]⟩
      case measure => simp [intOf]; omega
    · have e : k = n := by omega
      subst e
      go_wp2_with fail
      go_ret
      exact ⟨rfl, Below.refl _ _⟩
def msOk (n : Nat) (R : Nat → Nat) (F : Nat → Nat → Int) (l : Nat) (P : Nat → Int) : Bool := acB n R F && mtB n l P
def msV (n : Nat) (R : Nat → Nat) (F : Nat → Nat → Int) (l : Nat) (P : Nat → Int) : Value := .tuple #[.int .i64 (if msOk n R F l P then sumP F P n else 0), .bool (msOk n R F l P)]
set_option maxRecDepth 100000 in
set_option maxHeartbeats 2000000 in
theorem iMatchingSum_g (v u : Value) (n : Nat) (R : Nat → Nat) (F : Nat → Nat → Int) (l : Nat) (P : Nat → Int) (w : World) (h : IRows w v n R F) (hu : Ints w u l P) (hn : n ≤ 1048576) (hR : ∀ i, i < n → R i ≤ 1048576) (hl : l ≤ 1048576) :
    Calls Try.prog 21 #[v, u] w (Ans w (msV n R F l P)) := by
  have HI := Lib.hid h
  have HU := Lib.hid hu
  have HA := Lib.hid (areCosts_g v n R F w h hn hR)
  obtain ⟨A, c, rfl, _⟩ := h.shape
  obtain ⟨A2, c2, rfl, _⟩ := hu.shape
  clear h hu hR
  cases e1 : acB n R F with
  | false =>
    rw [e1] at HA
    rw [show msV n R F l P = .tuple #[.int .i64 0, .bool false] by simp [msV, msOk, e1]]
    clear e1
    go_enter Try.func21, Try.ntmps21
    go_wp2_with (go_at_call 24; refine (HA.out).mono ?_; rintro e w1 ⟨rfl, hb1⟩)
    go_ret2
    exact ⟨rfl, hb1⟩
  | true =>
    rw [e1] at HA
    have hn12 := (acB_iff e1).1
    have HM := Lib.hid (fun W (hW : Below w.heap.size w W) => isMatching_g _ n l P W (HU.out.up hW) hl hn12.2)
    cases e2 : mtB n l P with
    | false =>
      rw [e2] at HM
      rw [show msV n R F l P = .tuple #[.int .i64 0, .bool false] by simp [msV, msOk, e2]]
      clear e1 e2
      go_enter Try.func21, Try.ntmps21
      go_wp2_with (first | (go_at_call 24; refine (HA.out).mono ?_; rintro e w1 ⟨rfl, hb1⟩) | (go_at_call 50; refine (HM.out _ hb1).mono ?_; rintro e w2 ⟨rfl, hb2⟩))
      go_ret2
      exact ⟨rfl, up_trans hb1 hb2⟩
    | true =>
      rw [e2] at HM
      rw [show msV n R F l P = .tuple #[.int .i64 (sumP F P n), .bool true] by simp [msV, msOk, e1, e2]]
      obtain ⟨rfl, hP⟩ := mt_places e2
      have HS := Lib.hid (fun W (hW : Below w.heap.size w W) => sumOf_g _ _ l R F P W (HI.out.up hW) e1 (HU.out.up hW) hP)
      clear e1 e2 hP
      go_enter Try.func21, Try.ntmps21
      go_wp2_with (first | (go_at_call 24; refine (HA.out).mono ?_; rintro e w1 ⟨rfl, hb1⟩) | (go_at_call 50; refine (HM.out _ hb1).mono ?_; rintro e w2 ⟨rfl, hb2⟩; replace hb2 := up_trans hb1 hb2) | (go_at_call 34; refine (HS.out _ hb2).mono ?_; rintro e w3 ⟨rfl, hb3⟩))
      go_ret2
      exact ⟨rfl, up_trans hb2 hb3⟩
set_option maxRecDepth 100000 in
set_option maxHeartbeats 2000000 in
theorem sMatchingSum_g (v u : Value) (n : Nat) (R : Nat → Nat) (F : Nat → Nat → Int) (l : Nat) (P : Nat → Int) (w : World) (h : IRows w v n R F) (hu : Ints w u l P) (hn : n ≤ 1048576) (hR : ∀ i, i < n → R i ≤ 1048576) (hl : l ≤ 1048576) :
    Calls Try.prog 22 #[v, u] w (Ans w (msV n R F l P)) := by
  have HI := Lib.hid h
  have HU := Lib.hid hu
  have HA := Lib.hid (maGood_g v n R F w h hn hR)
  obtain ⟨A, c, rfl, _⟩ := h.shape
  obtain ⟨A2, c2, rfl, _⟩ := hu.shape
  clear h hu hR
  cases e1 : acB n R F with
  | false =>
    rw [e1] at HA
    rw [show msV n R F l P = .tuple #[.int .i64 0, .bool false] by simp [msV, msOk, e1]]
    clear e1
    go_enter Try.func22, Try.ntmps22
    go_wp2_with (go_at_call 35; refine (HA.out).mono ?_; rintro e w1 ⟨rfl, hb1⟩)
    go_ret2
    exact ⟨rfl, hb1⟩
  | true =>
    rw [e1] at HA
    have HM := Lib.hid (fun W (hW : Below w.heap.size w W) => maPlaces_g _ n l P W (HU.out.up hW) hl hn)
    cases e2 : mtB n l P with
    | false =>
      rw [e2] at HM
      rw [show msV n R F l P = .tuple #[.int .i64 0, .bool false] by simp [msV, msOk, e2]]
      clear e1 e2
      go_enter Try.func22, Try.ntmps22
      go_wp2_with (first | (go_at_call 35; refine (HA.out).mono ?_; rintro e w1 ⟨rfl, hb1⟩) | (go_at_call 51; refine (HM.out _ hb1).mono ?_; rintro e w2 ⟨rfl, hb2⟩))
      go_ret2
      exact ⟨rfl, up_trans hb1 hb2⟩
    | true =>
      rw [e2] at HM
      rw [show msV n R F l P = .tuple #[.int .i64 (sumP F P n), .bool true] by simp [msV, msOk, e1, e2]]
      obtain ⟨rfl, hP⟩ := mt_places e2
      have HS := Lib.hid (fun W (hW : Below w.heap.size w W) => maSum_g _ _ l R F P W (HI.out.up hW) e1 (HU.out.up hW) hP)
      clear e1 e2 hP
      go_enter Try.func22, Try.ntmps22
      go_wp2_with (first | (go_at_call 35; refine (HA.out).mono ?_; rintro e w1 ⟨rfl, hb1⟩) | (go_at_call 51; refine (HM.out _ hb1).mono ?_; rintro e w2 ⟨rfl, hb2⟩; replace hb2 := up_trans hb1 hb2) | (go_at_call 39; refine (HS.out _ hb2).mono ?_; rintro e w3 ⟨rfl, hb3⟩))
      go_ret2
      exact ⟨rfl, up_trans hb2 hb3⟩
/-- n numbers of a certificate. -/
def nuB (l : Nat) (P : Nat → Int) (n : Nat) : Bool := (l == n) && allB (fun j => inB (P j) (-2100000) 2100000) l
theorem nuB_iff {l : Nat} {P : Nat → Int} {n : Nat} (h : nuB l P n = true) : l = n ∧ ∀ i, i < n → -2100000 ≤ P i ∧ P i ≤ 2100000 := by
  simp only [nuB, Bool.and_eq_true, beq_iff_eq] at h
  obtain ⟨rfl, h2⟩ := h
  exact ⟨rfl, fun i hi => inB_iff.1 (allB_iff.1 h2 i hi)⟩
set_option maxRecDepth 100000 in
set_option maxHeartbeats 2000000 in
theorem areNumbers_g (v : Value) (l n : Nat) (P : Nat → Int) (w : World) (h : Ints w v l P) (hl : l ≤ 1048576) (hn : n ≤ 1048576) :
    Calls Try.prog 53 #[v, .int .i64 n] w (Ans w (.bool (nuB l P n))) := by
  have HE := Lib.hid (show nuB l P n = ((l == n) && allB (fun j => inB (P j) (-2100000) 2100000) l) from rfl)
  obtain ⟨A, c, rfl, hnc, hrow⟩ := h
  go_enter Try.func53, Try.ntmps53
  go_wp2_with fail
  go_loop [9] (fun i => ∃ k : Nat, k ≤ l ∧ i = .int .i64 k ∧ allB (fun j => inB (P j) (-2100000) 2100000) k = true) (fun i => l - (intOf i).toNat)
  case atStart => exact ⟨0, by omega, rfl, rfl⟩
  case round =>
    obtain ⟨k, hk, rfl, ha⟩ := hrel
    have HA := Lib.hid ha
    clear ha
    by_cases hlt : k < l
    · obtain ⟨b, o, rfl, hrr⟩ := hrow (by omega)
      have c0 := hrr k hlt
      clear hrr hrow
      cases hq : inB (P k) (-2100000) 2100000 with
      | true =>
        have HQ := Lib.hid hq
        go_wp2_with (go_at_call 52; refine (within_any _ _ _ _).mono ?_; rintro e w1 ⟨rfl, rfl⟩)
        go_round
        case rel => exact ⟨k + 1, by omega, by go_num, allB_succ HA.out HQ.out⟩
        case measure => simp [intOf]; omega
      | false =>
        have HQ := Lib.hid hq
        go_wp2_with (go_at_call 52; refine (within_any _ _ _ _).mono ?_; rintro e w1 ⟨rfl, rfl⟩)
        go_ret
        exact Ans.bool (by rw [HE.out, allB_no hlt HQ.out]; simp) (Below.refl _ _)
    · have e : k = l := by omega
      subst e
      go_wp2_with fail
      go_ret
      exact Ans.bool (by rw [HE.out, HA.out, Bool.and_true, Bool.eq_iff_iff]; simp only [beq_iff_eq]; omega) (Below.refl _ _)
set_option maxRecDepth 100000 in
set_option maxHeartbeats 1000000 in
theorem maNumbers_g (v : Value) (l n : Nat) (P : Nat → Int) (w : World) (h : Ints w v l P) (hl : l ≤ 1048576) (hn : n ≤ 1048576) :
    Calls Try.prog 56 #[v, .int .i64 n] w (Ans w (.bool (nuB l P n))) := by
  have HC := Lib.hid (l1All_g v l P (-2100000) 2100000 w h (by omega))
  obtain ⟨A, c, rfl, _⟩ := h.shape
  clear h
  by_cases e1 : l = n
  · have hdec : ((l : Int) == (n : Int)) = true := by simp; omega
    have HE := Lib.hid (show nuB l P n = allB (fun j => inB (P j) (-2100000) 2100000) l by simp [nuB, e1])
    clear e1
    go_enter Try.func56, Try.ntmps56
    go_wp2_with (go_at_call 59; refine (HC.out).mono ?_; rintro e w1 ⟨rfl, hb1⟩)
    go_ret
    exact Ans.bool (by rw [HE.out]) hb1
  · have hdec : ((l : Int) == (n : Int)) = false := by simp; omega
    have HE := Lib.hid (show nuB l P n = false by simp [nuB, e1])
    clear e1
    go_enter Try.func56, Try.ntmps56
    go_wp2_with fail
    go_ret
    exact Ans.bool (by rw [HE.out]) (Below.refl _ _)
def ctB (n : Nat) (F : Nat → Nat → Int) (X Y : Nat → Int) : Bool := allB (fun i => allB (fun k => decide (X i + Y k ≤ F i k)) n) n
def ctOk (n : Nat) (R : Nat → Nat) (F : Nat → Nat → Int) (l : Nat) (X : Nat → Int) (m : Nat) (Y : Nat → Int) : Bool := (acB n R F && nuB l X n) && nuB m Y n
def ctV (n : Nat) (R : Nat → Nat) (F : Nat → Nat → Int) (l : Nat) (X : Nat → Int) (m : Nat) (Y : Nat → Int) : Value := .tuple #[.bool (ctOk n R F l X m Y && ctB n F X Y), .bool (ctOk n R F l X m Y)]
set_option maxRecDepth 100000 in
set_option maxHeartbeats 4000000 in
theorem iIsCertificate_g (v u t : Value) (n : Nat) (R : Nat → Nat) (F : Nat → Nat → Int) (l : Nat) (X : Nat → Int) (m : Nat) (Y : Nat → Int) (w : World) (h : IRows w v n R F) (hu : Ints w u l X) (ht : Ints w t m Y) (hn : n ≤ 1048576) (hR : ∀ i, i < n → R i ≤ 1048576) (hl : l ≤ 1048576) (hm : m ≤ 1048576) :
    Calls Try.prog 25 #[v, u, t] w (Ans w (ctV n R F l X m Y)) := by
  have HI := Lib.hid h
  have HU := Lib.hid hu
  have HT := Lib.hid ht
  have HA := Lib.hid (areCosts_g v n R F w h hn hR)
  have HX := Lib.hid (fun W (hW : Below w.heap.size w W) => areNumbers_g u l n X W (HU.out.up hW) hl hn)
  have HY := Lib.hid (fun W (hW : Below w.heap.size w W) => areNumbers_g t m n Y W (HT.out.up hW) hm hn)
  obtain ⟨A, c, rfl, _⟩ := h.shape
  obtain ⟨A2, c2, rfl, _⟩ := hu.shape
  obtain ⟨A3, c3, rfl, _⟩ := ht.shape
  clear h hu ht hR
  cases e1 : acB n R F with
  | false =>
    rw [e1] at HA
    rw [show ctV n R F l X m Y = .tuple #[.bool false, .bool false] by simp [ctV, ctOk, e1]]
    clear e1
    go_enter Try.func25, Try.ntmps25
    go_wp2_with (go_at_call 24; refine (HA.out).mono ?_; rintro e w1 ⟨rfl, hb1⟩)
    go_ret2
    exact ⟨rfl, hb1⟩
  | true =>
    rw [e1] at HA
    cases e2 : nuB l X n with
    | false =>
      rw [e2] at HX
      rw [show ctV n R F l X m Y = .tuple #[.bool false, .bool false] by simp [ctV, ctOk, e2]]
      clear e1 e2
      go_enter Try.func25, Try.ntmps25
      go_wp2_with (first | (go_at_call 24; refine (HA.out).mono ?_; rintro e w1 ⟨rfl, hb1⟩) | (go_at_call 53; refine (HX.out _ hb1).mono ?_; rintro e w2 ⟨rfl, hb2⟩))
      go_ret2
      exact ⟨rfl, up_trans hb1 hb2⟩
    | true =>
      rw [e2] at HX
      cases e3 : nuB m Y n with
      | false =>
        rw [e3] at HY
        rw [show ctV n R F l X m Y = .tuple #[.bool false, .bool false] by simp [ctV, ctOk, e3]]
        clear e1 e2 e3
        go_enter Try.func25, Try.ntmps25
        go_wp2_with fail
        refine (HA.out).mono ?_
        rintro e w1 ⟨rfl, hb1⟩
        go_wp2_with fail
        refine (HX.out _ hb1).mono ?_
        rintro e w2 ⟨rfl, hb2⟩
        replace hb2 := up_trans hb1 hb2
        go_wp2_with fail
        refine (HY.out _ hb2).mono ?_
        rintro e w3 ⟨rfl, hb3⟩
        go_wp2_with fail
        go_ret2
        exact ⟨rfl, up_trans hb2 hb3⟩
      | true =>
        rw [e3] at HY
        rw [show ctV n R F l X m Y = .tuple #[.bool (ctB n F X Y), .bool true] by simp [ctV, ctOk, e1, e2, e3]]
        obtain ⟨rfl, hX⟩ := nuB_iff e2
        obtain ⟨rfl, hY⟩ := nuB_iff e3
        obtain ⟨⟨n1, n12⟩, _, hF⟩ := acB_iff e1
        obtain ⟨b, o, c', B, O, C, hq, hM⟩ := mat_of HI.out e1
        injection hq with hq1 _ hq3
        subst hq1 hq3
        obtain ⟨b2, o2, e4, hr2⟩ : ∃ b o, A2 = some ⟨b, o, none⟩ ∧ Row1 w b o m X := by
          obtain ⟨A', c', e', _, hrr⟩ := HU.out
          cases e'
          exact hrr (by omega)
        subst e4
        obtain ⟨b3, o3, e4, hr3⟩ : ∃ b o, A3 = some ⟨b, o, none⟩ ∧ Row1 w b o m Y := by
          obtain ⟨A', c', e', _, hrr⟩ := HT.out
          cases e'
          exact hrr (by omega)
        subst e4
        have HM := Lib.hid hM
        have HR2 := Lib.hid hr2
        have HR3 := Lib.hid hr3
        have HF := Lib.hid hF
        have HXb := Lib.hid hX
        have HYb := Lib.hid hY
        have HE := Lib.hid (show ctB m F X Y = allB (fun i => allB (fun k => decide (X i + Y k ≤ F i k)) m) m from rfl)
        clear e1 e2 e3 hM hr2 hr3 hF hX hY
        go_enter Try.func25, Try.ntmps25
        go_wp2_with fail
        refine (HA.out).mono ?_
        rintro e w1 ⟨rfl, hb1⟩
        go_wp2_with fail
        refine (HX.out _ hb1).mono ?_
        rintro e w2 ⟨rfl, hb2⟩
        replace hb2 := up_trans hb1 hb2
        go_wp2_with fail
        refine (HY.out _ hb2).mono ?_
        rintro e w3 ⟨rfl, hb3⟩
        replace hb3 := up_trans hb2 hb3
        go_wp2_with fail
        go_loopw [31] (fun i wr => ∃ k : Nat, k ≤ m ∧ i = .int .i64 k ∧ Below w.heap.size w wr ∧ allB (fun i => allB (fun k => decide (X i + Y k ≤ F i k)) m) k = true) (fun i _ => m - (intOf i).toNat)
        case atStart => exact ⟨0, by omega, rfl, hb3, rfl⟩
        case round =>
          obtain ⟨k, hk, rfl, hb, ha⟩ := hrel
          have HAl := Lib.hid ha
          clear ha hb1 hb2 hb3
          by_cases hlt : k < m
          · have d0 := up_keep hb (HM.out.row k hlt)
            go_wp2_with fail
            go_loopw [38] (fun i wx => ∃ j : Nat, j ≤ m ∧ i = .int .i64 j ∧ Below w.heap.size w wx ∧ allB (fun k' => decide (X k + Y k' ≤ F k k')) j = true) (fun i _ => m - (intOf i).toNat)
            case atStart => exact ⟨0, by omega, rfl, hb, rfl⟩
            case round =>
              obtain ⟨j, hj, rfl, hbx, ha⟩ := hrel
              have HB := Lib.hid ha
              clear ha d0
              by_cases hlt2 : j < m
              · have d1 := up_keep hbx (HM.out.at hlt hlt2)
                have d2 := up_keep hbx (HR2.out k hlt)
                have d3 := up_keep hbx (HR3.out j hlt2)
                have x1 := HXb.out k hlt
                have y1 := HYb.out j hlt2
                have f1 := HF.out k j hlt hlt2
                have j1 : (k : Int) < (m : Int) := by omega
                have j2 : (j : Int) < (m : Int) := by omega
                by_cases hq : X k + Y j ≤ F k j
                · have hdec : decide (F k j < X k + Y j) = false := by simpa using hq
                  have HQ := Lib.hid (show decide (X k + Y j ≤ F k j) = true by simpa using hq)
                  go_wp2_with fail
                  have hz0 : IntKind.i64.wrap (X k + Y j) = X k + Y j := IntWalk.i64_in _ (by omega)
                  go_quiet (fail)
                  clear hz0
                  go_wp2_with fail
                  go_roundw
                  case rel => exact ⟨j + 1, by omega, by go_num, by (repeat (first | with_reducible exact Below.refl _ _ | with_reducible assumption | with_reducible refine up_alloc ?_ _ | with_reducible refine up_drew ?_ | with_reducible refine up_drewN ?_ _ | (with_reducible refine up_set ?_ ?hset _; case hset => first | (simp; done) | (simp; omega) | omega) | with_reducible refine up_trans ?_ (by with_reducible assumption))), allB_succ HB.out HQ.out⟩
                  case measure => simp [intOf]; omega
                · have hdec : decide (F k j < X k + Y j) = true := by simpa using hq
                  have HQ := Lib.hid (show decide (X k + Y j ≤ F k j) = false by simpa using hq)
                  go_wp2_with fail
                  have hz0 : IntKind.i64.wrap (X k + Y j) = X k + Y j := IntWalk.i64_in _ (by omega)
                  go_quiet (fail)
                  clear hz0
                  go_wp2_with fail
                  go_ret2
                  rw [HE.out, allB_no hlt (by rw [allB_no hlt2 HQ.out])]
                  exact ⟨rfl, by (repeat (first | with_reducible exact Below.refl _ _ | with_reducible assumption | with_reducible refine up_alloc ?_ _ | with_reducible refine up_drew ?_ | with_reducible refine up_drewN ?_ _ | (with_reducible refine up_set ?_ ?hset _; case hset => first | (simp; done) | (simp; omega) | omega) | with_reducible refine up_trans ?_ (by with_reducible assumption)))⟩
              · have e : j = m := by omega
                subst e
                go_wp2_with fail
                go_roundw
                case rel => exact ⟨k + 1, by omega, by go_num, hbx, allB_succ HAl.out HB.out⟩
                case measure => simp [intOf]; omega
          · have e : k = m := by omega
            subst e
            go_wp2_with fail
            go_ret2
            rw [HE.out, HAl.out]
            exact ⟨rfl, hb⟩
set_option maxRecDepth 100000 in
set_option maxHeartbeats 4000000 in
theorem sIsCertificate_g (v u t : Value) (n : Nat) (R : Nat → Nat) (F : Nat → Nat → Int) (l : Nat) (X : Nat → Int) (m : Nat) (Y : Nat → Int) (w : World) (h : IRows w v n R F) (hu : Ints w u l X) (ht : Ints w t m Y) (hn : n ≤ 1048576) (hR : ∀ i, i < n → R i ≤ 1048576) (hl : l ≤ 1048576) (hm : m ≤ 1048576) :
    Calls Try.prog 28 #[v, u, t] w (Ans w (ctV n R F l X m Y)) := by
  have HI := Lib.hid h
  have HU := Lib.hid hu
  have HT := Lib.hid ht
  have HA := Lib.hid (maGood_g v n R F w h hn hR)
  have HX := Lib.hid (fun W (hW : Below w.heap.size w W) => maNumbers_g u l n X W (HU.out.up hW) hl hn)
  have HY := Lib.hid (fun W (hW : Below w.heap.size w W) => maNumbers_g t m n Y W (HT.out.up hW) hm hn)
  obtain ⟨A, c, rfl, _⟩ := h.shape
  obtain ⟨A2, c2, rfl, _⟩ := hu.shape
  obtain ⟨A3, c3, rfl, _⟩ := ht.shape
  clear h hu ht hR
  cases e1 : acB n R F with
  | false =>
    rw [e1] at HA
    rw [show ctV n R F l X m Y = .tuple #[.bool false, .bool false] by simp [ctV, ctOk, e1]]
    clear e1
    go_enter Try.func28, Try.ntmps28
    go_wp2_with (go_at_call 35; refine (HA.out).mono ?_; rintro e w1 ⟨rfl, hb1⟩)
    go_ret2
    exact ⟨rfl, hb1⟩
  | true =>
    rw [e1] at HA
    cases e2 : nuB l X n with
    | false =>
      rw [e2] at HX
      rw [show ctV n R F l X m Y = .tuple #[.bool false, .bool false] by simp [ctV, ctOk, e2]]
      clear e1 e2
      go_enter Try.func28, Try.ntmps28
      go_wp2_with (first | (go_at_call 35; refine (HA.out).mono ?_; rintro e w1 ⟨rfl, hb1⟩) | (go_at_call 56; refine (HX.out _ hb1).mono ?_; rintro e w2 ⟨rfl, hb2⟩))
      go_ret2
      exact ⟨rfl, up_trans hb1 hb2⟩
    | true =>
      rw [e2] at HX
      cases e3 : nuB m Y n with
      | false =>
        rw [e3] at HY
        rw [show ctV n R F l X m Y = .tuple #[.bool false, .bool false] by simp [ctV, ctOk, e3]]
        clear e1 e2 e3
        go_enter Try.func28, Try.ntmps28
        go_wp2_with fail
        refine (HA.out).mono ?_
        rintro e w1 ⟨rfl, hb1⟩
        go_wp2_with fail
        refine (HX.out _ hb1).mono ?_
        rintro e w2 ⟨rfl, hb2⟩
        replace hb2 := up_trans hb1 hb2
        go_wp2_with fail
        refine (HY.out _ hb2).mono ?_
        rintro e w3 ⟨rfl, hb3⟩
        go_wp2_with fail
        go_ret2
        exact ⟨rfl, up_trans hb2 hb3⟩
      | true =>
        rw [e3] at HY
        rw [show ctV n R F l X m Y = .tuple #[.bool (ctB n F X Y), .bool true] by simp [ctV, ctOk, e1, e2, e3]]
        obtain ⟨rfl, hX⟩ := nuB_iff e2
        obtain ⟨rfl, hY⟩ := nuB_iff e3
        obtain ⟨⟨n1, n12⟩, _, hF⟩ := acB_iff e1
        obtain ⟨b, o, c', B, O, C, hq, hM⟩ := mat_of HI.out e1
        injection hq with hq1 _ hq3
        subst hq1 hq3
        obtain ⟨b2, o2, e4, hr2⟩ : ∃ b o, A2 = some ⟨b, o, none⟩ ∧ Row1 w b o m X := by
          obtain ⟨A', c', e', _, hrr⟩ := HU.out
          cases e'
          exact hrr (by omega)
        subst e4
        obtain ⟨b3, o3, e4, hr3⟩ : ∃ b o, A3 = some ⟨b, o, none⟩ ∧ Row1 w b o m Y := by
          obtain ⟨A', c', e', _, hrr⟩ := HT.out
          cases e'
          exact hrr (by omega)
        subst e4
        have HM := Lib.hid hM
        have HR2 := Lib.hid hr2
        have HR3 := Lib.hid hr3
        have HF := Lib.hid hF
        have HXb := Lib.hid hX
        have HYb := Lib.hid hY
        have HE := Lib.hid (show ctB m F X Y = allB (fun i => allB (fun k => decide (X i + Y k ≤ F i k)) m) m from rfl)
        clear e1 e2 e3 hM hr2 hr3 hF hX hY
        go_enter Try.func28, Try.ntmps28
        go_wp2_with fail
        refine (HA.out).mono ?_
        rintro e w1 ⟨rfl, hb1⟩
        go_wp2_with fail
        refine (HX.out _ hb1).mono ?_
        rintro e w2 ⟨rfl, hb2⟩
        replace hb2 := up_trans hb1 hb2
        go_wp2_with fail
        refine (HY.out _ hb2).mono ?_
        rintro e w3 ⟨rfl, hb3⟩
        replace hb3 := up_trans hb2 hb3
        go_wp2_with fail
        go_loopw [31] (fun i wr => ∃ k : Nat, k ≤ m ∧ i = .int .i64 k ∧ Below w.heap.size w wr ∧ allB (fun i => allB (fun k => decide (X i + Y k ≤ F i k)) m) k = true) (fun i _ => m - (intOf i).toNat)
        case atStart => exact ⟨0, by omega, rfl, hb3, rfl⟩
        case round =>
          obtain ⟨k, hk, rfl, hb, ha⟩ := hrel
          have HAl := Lib.hid ha
          clear ha hb1 hb2 hb3
          by_cases hlt : k < m
          · have d0 := up_keep hb (HM.out.row k hlt)
            go_wp2_with fail
            go_loopw [38] (fun i wx => ∃ j : Nat, j ≤ m ∧ i = .int .i64 j ∧ Below w.heap.size w wx ∧ allB (fun k' => decide (X k + Y k' ≤ F k k')) j = true) (fun i _ => m - (intOf i).toNat)
            case atStart => exact ⟨0, by omega, rfl, hb, rfl⟩
            case round =>
              obtain ⟨j, hj, rfl, hbx, ha⟩ := hrel
              have HB := Lib.hid ha
              clear ha d0
              by_cases hlt2 : j < m
              · have d1 := up_keep hbx (HM.out.at hlt hlt2)
                have d2 := up_keep hbx (HR2.out k hlt)
                have d3 := up_keep hbx (HR3.out j hlt2)
                have x1 := HXb.out k hlt
                have y1 := HYb.out j hlt2
                have f1 := HF.out k j hlt hlt2
                have j1 : (k : Int) < (m : Int) := by omega
                have j2 : (j : Int) < (m : Int) := by omega
                by_cases hq : X k + Y j ≤ F k j
                · have hdec : decide (F k j < X k + Y j) = false := by simpa using hq
                  have HQ := Lib.hid (show decide (X k + Y j ≤ F k j) = true by simpa using hq)
                  go_wp2_with fail
                  have hz0 : IntKind.i64.wrap (X k + Y j) = X k + Y j := IntWalk.i64_in _ (by omega)
                  go_quiet (fail)
                  clear hz0
                  go_wp2_with fail
                  go_roundw
                  case rel => exact ⟨j + 1, by omega, by go_num, by (repeat (first | with_reducible exact Below.refl _ _ | with_reducible assumption | with_reducible refine up_alloc ?_ _ | with_reducible refine up_drew ?_ | with_reducible refine up_drewN ?_ _ | (with_reducible refine up_set ?_ ?hset _; case hset => first | (simp; done) | (simp; omega) | omega) | with_reducible refine up_trans ?_ (by with_reducible assumption))), allB_succ HB.out HQ.out⟩
                  case measure => simp [intOf]; omega
                · have hdec : decide (F k j < X k + Y j) = true := by simpa using hq
                  have HQ := Lib.hid (show decide (X k + Y j ≤ F k j) = false by simpa using hq)
                  go_wp2_with fail
                  have hz0 : IntKind.i64.wrap (X k + Y j) = X k + Y j := IntWalk.i64_in _ (by omega)
                  go_quiet (fail)
                  clear hz0
                  go_wp2_with fail
                  go_ret2
                  rw [HE.out, allB_no hlt (by rw [allB_no hlt2 HQ.out])]
                  exact ⟨rfl, by (repeat (first | with_reducible exact Below.refl _ _ | with_reducible assumption | with_reducible refine up_alloc ?_ _ | with_reducible refine up_drew ?_ | with_reducible refine up_drewN ?_ _ | (with_reducible refine up_set ?_ ?hset _; case hset => first | (simp; done) | (simp; omega) | omega) | with_reducible refine up_trans ?_ (by with_reducible assumption)))⟩
              · have e : j = m := by omega
                subst e
                go_wp2_with fail
                go_roundw
                case rel => exact ⟨k + 1, by omega, by go_num, hbx, allB_succ HAl.out HB.out⟩
                case measure => simp [intOf]; omega
          · have e : k = m := by omega
            subst e
            go_wp2_with fail
            go_ret2
            rw [HE.out, HAl.out]
            exact ⟨rfl, hb⟩
end Go.Proofs.Ytadlemadnifohaa
