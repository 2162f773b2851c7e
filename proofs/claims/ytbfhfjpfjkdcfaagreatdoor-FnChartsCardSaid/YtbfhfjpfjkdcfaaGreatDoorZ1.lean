/- Words and contracts, part 1. -/
import Derived.WalkKit
import Derived.WalkSpells
import Derived.WalkLawsBesides
import Derived.ProofKit
import Derived.Lib.Hide
import Derived.BigQuiet
import Derived.Lib.QuietBelow
import Derived.Deep.Slices
import Derived.Deep.Fields
import Derived.Test.YtbfhfjpfjkdcfaaGreatDoorRows
import Derived.Maps.AppendAt
import Derived.Deep.AppendLies
import Derived.Lib.SmallJoins
import Derived.Deep.Strs
import Derived.Deep.RegionHeld3
namespace Go.Proofs.YtbfhfjpfjkdcfaaGreatDoor
open Go.RowKit Go.ChangeShapes Go.WideShapes Go.Sort

/-- Returned `v`; nothing that was there has turned. -/
def Ans (w : World) (v : Value) (e : Ending) (w' : World) : Prop := e = .returned v ∧ Below w.heap.size w w'

theorem Ans.mk' {w : World} {v v' : Value} {w' : World} (h : v' = v) (hb : Below w.heap.size w w') : Ans w v (.returned v') w' := ⟨by rw [h], hb⟩

theorem Ans.int {w : World} {a b : Int} {w' : World} (h : a = b) (hb : Below w.heap.size w w') : Ans w (.int .i64 b) (.returned (.int .i64 a)) w' := ⟨by rw [h], hb⟩
theorem Ans.bool {w : World} {a b : Bool} {w' : World} (h : a = b) (hb : Below w.heap.size w w') : Ans w (.bool b) (.returned (.bool a)) w' := ⟨by rw [h], hb⟩
theorem Ans.int2 {w : World} {a b a' b' : Int} {w' : World} (h : a = a') (h' : b = b') (hb : Below w.heap.size w w') : Ans w (.tuple #[.int .i64 a', .int .i64 b']) (.returned (.tuple #[.int .i64 a, .int .i64 b])) w' := ⟨by rw [h, h'], hb⟩
theorem ret_int {k : IntKind} {a b : Int} (h : a = b) : Ending.returned (.int k a) = .returned (.int k b) := by rw [h]
theorem ret_bool {a b : Bool} (h : a = b) : Ending.returned (.bool a) = .returned (.bool b) := by rw [h]

/-- The cells and marks of what was there, as the walk uses them. -/
theorem bcell {W w1 : World} (hb : Below W.heap.size W w1) : (∀ b o, b < W.heap.size → w1.cell? ⟨b, o, none⟩ = W.cell? ⟨b, o, none⟩) ∧ (∀ b o, b < W.heap.size → w1.frozen? ⟨b, o, none⟩ = W.frozen? ⟨b, o, none⟩) :=
  ⟨fun b o h => hb.cell (p := ⟨b, o, none⟩) h, fun b o h => hb.frozen (p := ⟨b, o, none⟩) h⟩

theorem lt_of_cell {w : World} {b o : Nat} {v : Value} (h : w.cell? ⟨b, o, none⟩ = some v) : b < w.heap.size := block_lt_of_cell h

theorem up_keep {w w' : World} (hb : Below w.heap.size w w') {b o : Nat} {v : Value} (h : w.cell? ⟨b, o, none⟩ = some v) : w'.cell? ⟨b, o, none⟩ = some v := by
  rw [hb.cell (p := ⟨b, o, none⟩) (lt_of_cell h)]; exact h

theorem up_drewN {B : Nat} {a w : World} (h : Below B a w) (n : Nat) : Below B a (w.drewN n) := ⟨h.os, h.tape, h.output, h.size, h.block⟩

theorem up_trans {a b c : World} (h : Below a.heap.size a b) (k : Below b.heap.size b c) : Below a.heap.size a c := h.trans (k.mono h.size)

theorem below_alloc (w : World) (o : Obj) : Below w.heap.size w (w.alloc o) := (Below.refl _ _).alloc (Nat.le_refl _) _

theorem up_alloc {a w : World} (h : Below a.heap.size a w) (o : Obj) : Below a.heap.size a (w.alloc o) := h.alloc h.size _
theorem up_drew {a w : World} (h : Below a.heap.size a w) : Below a.heap.size a w.drew := h.drew
theorem up_set {a w : World} (h : Below a.heap.size a w) {p : Addr} (hp : a.heap.size ≤ p.block) (u : Value) : Below a.heap.size a (w.setCell p u) := h.setCell hp u

/-- A region whose order is open, whose operations only read, and whose callees turn nothing that was there: one walk in the text's order; what stands behind is asked in every world in which nothing that was there has turned. -/
theorem wp_region_up {P : Program} {id : Nat} {Q : Exit → Act → World → Prop} {a : Act} {w : World} {l : List Oper} (hm : P.follows .mixedOrders = true) (hB : Region.lexB .any l.toArray = true)
    (h : wpQuiet P l.toArray (fun w' => ∃ p : Regrown, w' = grow (redrawn w p.d) p.os) (fun a' => ∀ w', Below w.heap.size w w' → Q .normal a' w') l a) : (Code.region id l.toArray true).wp P Q a w := by
  refine wp_region_quiet (C := fun w' => ∃ p : Regrown, w' = grow (redrawn w p.d) p.os) hm hB ⟨⟨w.drawn + 1, #[]⟩, by rw [grow_empty]; rfl⟩ ?_
  have mono : ∀ (l' : List Oper) (a : Act), wpQuiet P l.toArray (fun w' => ∃ p : Regrown, w' = grow (redrawn w p.d) p.os) (fun a' => ∀ w', Below w.heap.size w w' → Q .normal a' w') l' a →
      wpQuiet P l.toArray (fun w' => ∃ p : Regrown, w' = grow (redrawn w p.d) p.os) (fun a' => ∀ w', (∃ p : Regrown, w' = grow (redrawn w p.d) p.os) → Q .normal a' w') l' a := by
    intro l'
    induction l' with
    | nil => intro a h w' hw'; obtain ⟨p, rfl⟩ := hw'; exact h _ (below_regrown _ _ _)
    | cons o rest ih =>
      intro a h
      unfold wpQuiet at h ⊢
      split
      · rename_i hw; rw [if_pos hw] at h; exact Oper.quiet_mono (fun a => ih a) h
      · rename_i hw; rw [if_neg hw] at h; exact ih _ h
  simpa using mono l a h

/-- A callee's contract, met in a world of the class. -/
theorem up_of {P : Program} {f : FuncId} {args : Array Value} {w : World} {v : Value} (h : ∀ W, Below w.heap.size w W → Calls P f args W (Ans W v)) (d : Nat) (os : Array Obj) :
    Calls P f args (grow (redrawn w d) os) fun e w'' => e = .returned v ∧ ∃ p : Regrown, w'' = grow (redrawn w p.d) p.os :=
  Calls.regrown_of ((h _ (below_regrown w d os)).mono fun _ _ ⟨h1, h2⟩ => ⟨h1, h2⟩)

/-- A callee's contract, from a base world on. -/
theorem from0 {P : Program} {f : FuncId} {args : Array Value} {w0 w : World} {v : Value} (h : Calls P f args w (Ans w v)) (h0 : Below w0.heap.size w0 w) :
    Calls P f args w fun e w' => e = .returned v ∧ Below w0.heap.size w0 w' := h.mono fun _ _ ⟨h1, h2⟩ => ⟨h1, up_trans h0 h2⟩

theorem up_same {P : Program} {f : FuncId} {args : Array Value} {w : World} {v : Value} (h : ∀ W, Calls P f args W fun e w' => e = .returned v ∧ W = w') (d : Nat) (os : Array Obj) :
    Calls P f args (grow (redrawn w d) os) fun e w'' => e = .returned v ∧ ∃ p : Regrown, w'' = grow (redrawn w p.d) p.os :=
  (h _).mono fun _ _ ⟨h1, h2⟩ => ⟨h1, ⟨⟨d, os⟩, h2.symm⟩⟩

theorem ans_of_same {P : Program} {f : FuncId} {args : Array Value} {w : World} {v : Value} (h : Calls P f args w fun e w' => e = .returned v ∧ w = w') : Calls P f args w (Ans w v) :=
  h.mono fun _ _ ⟨h1, h2⟩ => ⟨h1, by subst h2; exact Below.refl _ _⟩

/-! ### The row's lift -/
section
variable {H : Type} {enc : TypeId × Value → H} {P : Program}

theorem trodAll_stays (hl : laidOutB P = true) {W W' : World} (hb : Below W.heap.size W W') {sp : Nat → Bool} : ∀ (ts : List TypeId) (vs : List Value) (ds : List (DataW H)) (ps : List MemPlace),
    (∀ t ∈ ts, P.readableRec t = true ∧ t < P.types.size) → DataW.TrodAll enc P W 0 (fun _ => true) true ts vs ds ps → (∀ x ∈ ps, x.block < W.heap.size) → (∀ x ∈ ps, sp x.block = true) →
    DataW.TrodAll enc P W' 0 sp true ts vs ds ps
  | [], [], [], ps, _, h, _, _ => h
  | t :: ts, v :: vs, d :: ds, ps, hr, ⟨p, q, h1, h2, he⟩, hlt, hsp => by
    subst he
    refine ⟨p, q, ?_, trodAll_stays hl hb ts vs ds q (fun t' ht' => hr t' (List.mem_cons_of_mem _ ht')) h2 (fun x hx => hlt x (List.mem_append_right _ hx)) (fun x hx => hsp x (List.mem_append_right _ hx)), rfl⟩
    exact WideElems.Trod_stays hl (hr t (List.mem_cons_self)).1 (hr t (List.mem_cons_self)).2 h1 (fun x hx => hb.same (hlt x (List.mem_append_left _ hx))) (fun x hx => hsp x (List.mem_append_left _ hx))
  | [], _ :: _, _, _, _, h, _, _ => by simp [DataW.TrodAll] at h
  | [], [], _ :: _, _, _, h, _, _ => by simp [DataW.TrodAll] at h
  | _ :: _, [], _, _, _, h, _, _ => by simp [DataW.TrodAll] at h
  | _ :: _, _ :: _, [], _, _, h, _, _ => by simp [DataW.TrodAll] at h

theorem post_of_below {f : Func} {s : ChangeSpec} {apart fresh handsOn again : Bool} {W W' : World} {args : Array Value} {v : Value} {ds gs : List (DataW H)} {before pa pv : List MemPlace}
    (hW : DataW.Whole enc P f.params.toList s.vars apart W args.toList ds gs before)
    (hres : ∀ (b : Nat) (sp : Nat → Bool) (hd : Bool), DataW.TrodAll enc P W' b sp hd f.resultTypes.toList (v.resultList f.resultTypes.size) (s.fn H (ds ++ gs)).results [])
    (hargs : ∀ sp : Nat → Bool, (∀ p ∈ before, sp p.block = true) → DataW.TrodAll enc P W' 0 sp true f.params.toList args.toList (s.fn H (ds ++ gs)).args pa)
    (hvars : ∀ sp : Nat → Bool, (∀ p ∈ before, sp p.block = true) → DataW.TrodVars enc P W' sp s.vars (s.fn H (ds ++ gs)).vars pv)
    (hps : before = pa ++ pv) (hb : Below W.heap.size W W')
    (hok : ∀ (j : Nat) (t : TypeId) (r : Value), f.resultTypes[j]? = some t → (v.resultList f.resultTypes.size)[j]? = some r → Value.okWide P W' .any 0 t r) :
    s.post enc P f apart fresh handsOn again W args v W' := by
  have hlt : ∀ p ∈ before, p.block < W.heap.size := fun p hp => hW.lt p hp
  have hold : ∀ p ∈ before, (fun b => decide (b < W.heap.size)) p.block = true := fun p hp => by simpa using hlt p hp
  refine ⟨ds, gs, before, [], pa, pv, hW, hres _ _ _, hargs _ hold, hvars _ hold, World.keptBut_mono (fun p hp => ⟨hp, ?_⟩) (hb.frame (· ∈ before)), fun _ => ?_⟩
  · rw [hps, List.mem_append] at hp
    exact Or.inr hp
  · obtain ⟨_, _, _, _, _, hz, hn⟩ := hW
    refine ⟨hok, _, _, ([] ++ pa) ++ pv, ⟨[] ++ pa, pv, trodAll_append (hargs _ (fun _ _ => rfl)) (hres _ _ _), hvars _ (fun _ _ => rfl), rfl, ?_, ?_⟩, ?_⟩
    · intro b off hp
      have hin : MemPlace.cell b off ∈ before := by rw [hps]; simpa using hp
      rw [hb.frozen (hlt _ hin)]
      exact hz b off hin
    · intro ha
      have := hn ha
      rw [hps] at this
      simpa using this
    · intro p hp _
      rw [hps]
      simpa using hp
end

/-- What a law's walk shows. -/
def LawWalk (P : Program) (f : FuncId) (fn : Func) : Prop :=
  ∀ (H : Type) (enc : TypeId × Value → H) (W : World) (base : Nat) (args : Array Value) (ds : List (DataW H)) (ps : List MemPlace),
    (∀ (j : Nat) t v, fn.params[j]? = some t → args[j]? = some v → Value.okWide P W .any base t v) →
    DataW.TrodAll enc P W 0 (fun _ => true) true fn.params.toList args.toList ds ps → Calls P f args W (Ans W (.bool true))

theorem trodAll_len {H : Type} {enc : TypeId × Value → H} {P : Program} {w : World} {base : Nat} {sp : Nat → Bool} {held : Bool} : ∀ (ts : List TypeId) (vs : List Value) (ds : List (DataW H)) (ps : List MemPlace),
    DataW.TrodAll enc P w base sp held ts vs ds ps → ds.length = ts.length
  | [], [], [], _, _ => rfl
  | _ :: ts, _ :: vs, _ :: ds, _, ⟨_, q, _, h2, _⟩ => by simp [trodAll_len ts vs ds q h2]
  | [], _ :: _, _, _, h => by simp [DataW.TrodAll] at h
  | [], [], _ :: _, _, h => by simp [DataW.TrodAll] at h
  | _ :: _, [], _, _, h => by simp [DataW.TrodAll] at h
  | _ :: _, _ :: _, [], _, h => by simp [DataW.TrodAll] at h

theorem lifted_of {C : Checked} {f : FuncId} {fn : Func} {s : ChangeSpec} {tb : TypeId} (own : ownKnob C.prog.godebug = none) (laid : laidOutB C.prog = true)
    (hread : fn.params.toList.all (fun t => C.prog.readableRec t && decide (t < C.prog.types.size)) = true) (hinit : C.prog.inits.idxOf? f = none) (hfn : C.prog.funcs[f]? = some fn)
    (hres : fn.resultTypes = #[tb]) (htb : C.prog.underlying tb = some .bool) (hv : s.vars = [])
    (hs : ∀ (H : Type) (ds : List (DataW H)), ds.length = fn.params.toList.length → s.fn H ds = { results := [.lit (.bool true)], args := ds })
    (walk : LawWalk C.prog f fn) (os : Os) (started : os.Started) (H : Type) (enc : TypeId × Value → H)
    (witness : ∃ (w : World) (tape : Tape) (i : Input), w.os = os ∧ (w.forCall tape i).Shaped C.prog ∧ i.vars = [] ∧ Input.okWide C.prog (w.forCall tape i) .any w.heap.size f i ∧
      s.pre6 enc C.prog fn [] false (w.forCall tape i).memory i.args ∧ ({} : Assume).holds C.prog (lone (Frame.enter C.prog f i.args .normal) [] (w.forCall tape i))) :
    ReturnsInHanded {} C os f .any (s.pre6 enc C.prog fn [] false) (s.post enc C.prog fn false true false false) := by
  refine returnsInHanded_of_change (C := C) own started hinit hfn witness ?_
  intro W base args ds gs before hval hW _ _
  have hW' := hW
  obtain ⟨p, q, hA, hV, rfl, hfz, hnd⟩ := hW
  rw [hv] at hV
  obtain ⟨rfl, rfl⟩ := trodVars_none hV
  have hlen := trodAll_len _ _ _ _ hA
  have hsp := hs H ds hlen
  refine (walk H enc W base args ds p hval hA).mono fun e W' ⟨he, hb⟩ => ?_
  have hlt : ∀ x ∈ p, x.block < W.heap.size := fun x hx => hW'.lt x (by simpa using hx)
  refine ⟨_, he, post_of_below (pa := p) (pv := []) hW' ?_ ?_ ?_ rfl hb ?_⟩
  · intro b sp hd
    rw [hres, List.append_nil, hsp]
    exact trodAll_mk1 (shut_bool htb true)
  · intro sp hsp'
    rw [List.append_nil, hsp]
    refine trodAll_stays laid hb _ _ _ _ (fun t ht => ?_) hA hlt (fun x hx => hsp' x (by simpa using hx))
    have := List.all_eq_true.1 hread t ht
    simpa using this
  · intro sp _
    rw [List.append_nil, hsp, hv]
    exact rfl
  · exact ok_one hres rfl (okWide_bool_mk htb true)

theorem add_none (b o k : Nat) : (Addr.add ⟨b, o, none⟩ k) = ⟨b, o + k, none⟩ := by unfold Addr.add; split <;> simp_all
end Go.Proofs.YtbfhfjpfjkdcfaaGreatDoor
namespace Go.Proofs.YtbfhfjpfjkdcfaaGreatDoor
open Go.RowKit

/-- lo ≤ n ≤ hi, as a Bool. -/
def inB (n lo hi : Int) : Bool := decide (lo ≤ n) && decide (n ≤ hi)
theorem inB_iff {n lo hi : Int} : inB n lo hi = true ↔ lo ≤ n ∧ n ≤ hi := by simp [inB]

set_option maxHeartbeats 400000 in
theorem within_any (n lo hi : Int) (w : World) :
    Calls Tryz.prog 34 #[.int .i64 n, .int .i64 lo, .int .i64 hi] w fun e w' => e = .returned (.bool (inB n lo hi)) ∧ w = w' := by
  have H := Lib.hid (show inB n lo hi = (decide (lo ≤ n) && decide (n ≤ hi)) from rfl)
  go_enter Tryz.func34, Tryz.ntmps34
  go_wp2
  all_goals
    go_ret
    refine ⟨?_, rfl⟩
    rw [H.out]
    first | (congr 2; simp; omega) | (congr 2; simp [*]; done) | (congr 2; simp [*]; omega)
set_option maxHeartbeats 400000 in
theorem l1In_any (n lo hi : Int) (w : World) :
    Calls Tryz.prog 49 #[.int .i64 n, .int .i64 lo, .int .i64 hi] w fun e w' => e = .returned (.bool (inB n lo hi)) ∧ w = w' := by
  have H := Lib.hid (show inB n lo hi = (decide (lo ≤ n) && decide (n ≤ hi)) from rfl)
  go_enter Tryz.func49, Tryz.ntmps49
  go_wp2
  all_goals
    go_ret
    refine ⟨?_, rfl⟩
    rw [H.out]
    first | (congr 2; simp; omega) | (congr 2; simp [*]; done) | (congr 2; simp [*]; omega)
/-- A spot's numbers are valid. -/
def spotB (x y : Int) : Bool := inB x 0 1280 && inB y 0 672
theorem spotB_iff {x y : Int} : spotB x y = true ↔ (0 ≤ x ∧ x ≤ 1280) ∧ (0 ≤ y ∧ y ≤ 672) := by simp [spotB, inB]

set_option maxHeartbeats 400000 in
theorem isSpot_any (x y : Int) (w : World) :
    Calls Tryz.prog 35 #[.agg #[.int .i64 x, .int .i64 y]] w (Ans w (.bool (spotB x y))) := by
  have H := Lib.hid (show spotB x y = (inB x 0 1280 && inB y 0 672) from rfl)
  go_enter Tryz.func35, Tryz.ntmps35
  go_wp2_with (go_at_call 34; refine (within_any _ _ _ _).mono ?_; rintro e w' ⟨rfl, rfl⟩)
  all_goals
    go_ret
    exact Ans.bool (by rw [H.out]; simp [*]) (below_alloc _ _)
set_option maxHeartbeats 400000 in
theorem stGood_any (x y : Int) (w : World) :
    Calls Tryz.prog 48 #[.agg #[.int .i64 x, .int .i64 y]] w (Ans w (.bool (spotB x y))) := by
  have H := Lib.hid (show spotB x y = (inB x 0 1280 && inB y 0 672) from rfl)
  go_enter Tryz.func48, Tryz.ntmps48
  go_wp2_with (go_at_call 49; refine (l1In_any _ _ _ _).mono ?_; rintro e w' ⟨rfl, rfl⟩)
  all_goals
    go_ret
    exact Ans.bool (by rw [H.out]; simp [*]) (below_alloc _ _)
set_option maxHeartbeats 400000 in
theorem l1Least_any (a b : Int) (w : World) :
    Calls Tryz.prog 80 #[.int .i64 a, .int .i64 b] w fun e w' => e = .returned (.int .i64 (min a b)) ∧ w = w' := by
  have H := Lib.hid (show (a < b → min a b = a) ∧ (¬ a < b → min a b = b) from ⟨fun h => by omega, fun h => by omega⟩)
  go_enter Tryz.func80, Tryz.ntmps80
  go_wp2
  · have h : a < b := by assumption
    go_ret
    exact ⟨ret_int (H.out.1 h).symm, rfl⟩
  · have h : ¬ a < b := by first | assumption | omega
    go_ret
    exact ⟨ret_int (H.out.2 (by omega)).symm, rfl⟩
/-- The square of two spots. -/
def sq (x y u v : Int) : Int := (x - u) * (x - u) + (y - v) * (y - v)

/-- A product of two numbers of at most 1280 and 672 and the like. -/
theorem mul_bd {a b A B : Int} (ha : -A ≤ a) (ha' : a ≤ A) (hb : -B ≤ b) (hb' : b ≤ B) : -(A * B) ≤ a * b ∧ a * b ≤ A * B := by
  have hA : 0 ≤ A := by omega
  have hB : 0 ≤ B := by omega
  have h1 := Int.mul_nonneg (show 0 ≤ A - a by omega) (show 0 ≤ B - b by omega)
  have h2 := Int.mul_nonneg (show 0 ≤ A + a by omega) (show 0 ≤ B + b by omega)
  have h3 := Int.mul_nonneg (show 0 ≤ A - a by omega) (show 0 ≤ B + b by omega)
  have h4 := Int.mul_nonneg (show 0 ≤ A + a by omega) (show 0 ≤ B - b by omega)
  constructor <;> grind
theorem sq_nonneg (a : Int) : 0 ≤ a * a := by
  rcases Int.le_total 0 a with h | h
  · exact Int.mul_nonneg h h
  · have := Int.mul_nonneg (show 0 ≤ -a by omega) (show 0 ≤ -a by omega); grind
theorem sq_bd {x y u v : Int} (h : spotB x y = true) (h' : spotB u v = true) : 0 ≤ sq x y u v ∧ sq x y u v ≤ 2089984 := by
  rw [spotB_iff] at h h'
  have a := mul_bd (a := x - u) (b := x - u) (A := 1280) (B := 1280) (by omega) (by omega) (by omega) (by omega)
  have b := mul_bd (a := y - v) (b := y - v) (A := 672) (B := 672) (by omega) (by omega) (by omega) (by omega)
  have c := sq_nonneg (x - u)
  have d := sq_nonneg (y - v)
  unfold sq
  omega

set_option maxHeartbeats 400000 in
theorem squareOf_any (x y u v : Int) (h : spotB x y = true) (h' : spotB u v = true) (w : World) :
    Calls Tryz.prog 33 #[.agg #[.int .i64 x, .int .i64 y], .agg #[.int .i64 u, .int .i64 v]] w (Ans w (.int .i64 (sq x y u v))) := by
  have H := Lib.hid (show sq x y u v = (x - u) * (x - u) + (y - v) * (y - v) from rfl)
  rw [spotB_iff] at h h'
  obtain ⟨⟨a1, a2⟩, a3, a4⟩ := h
  obtain ⟨⟨b1, b2⟩, b3, b4⟩ := h'
  obtain ⟨c1, c2⟩ := mul_bd (a := x - u) (b := x - u) (A := 1280) (B := 1280) (by omega) (by omega) (by omega) (by omega)
  obtain ⟨d1, d2⟩ := mul_bd (a := y - v) (b := y - v) (A := 672) (B := 672) (by omega) (by omega) (by omega) (by omega)
  go_enter Tryz.func33, Tryz.ntmps33
  go_wp2
  go_ret
  exact Ans.int (by rw [H.out]; done) (up_alloc (below_alloc _ _) _)
set_option maxHeartbeats 400000 in
theorem stSquare_any (x y u v : Int) (h : spotB x y = true) (h' : spotB u v = true) (w : World) :
    Calls Tryz.prog 53 #[.agg #[.int .i64 x, .int .i64 y], .agg #[.int .i64 u, .int .i64 v]] w (Ans w (.int .i64 (sq x y u v))) := by
  have H := Lib.hid (show sq x y u v = (x - u) * (x - u) + (y - v) * (y - v) from rfl)
  rw [spotB_iff] at h h'
  obtain ⟨⟨a1, a2⟩, a3, a4⟩ := h
  obtain ⟨⟨b1, b2⟩, b3, b4⟩ := h'
  obtain ⟨c1, c2⟩ := mul_bd (a := x - u) (b := x - u) (A := 1280) (B := 1280) (by omega) (by omega) (by omega) (by omega)
  obtain ⟨d1, d2⟩ := mul_bd (a := y - v) (b := y - v) (A := 672) (B := 672) (by omega) (by omega) (by omega) (by omega)
  go_enter Tryz.func53, Tryz.ntmps53
  go_wp2
  go_ret
  exact Ans.int (by rw [H.out]; done) (up_alloc (below_alloc _ _) _)
end Go.Proofs.YtbfhfjpfjkdcfaaGreatDoor
namespace Go.Proofs.YtbfhfjpfjkdcfaaGreatDoor
open Go.RowKit

theorem cell_set_same (w : World) (b o : Nat) (u v : Value) (h : w.cell? ⟨b, o, none⟩ = some u) : (w.setCell ⟨b, o, none⟩ v).cell? ⟨b, o, none⟩ = some v := by
  unfold World.cell? at h ⊢
  simp only [World.setCell, Array.getElem?_modify, if_true]
  cases hb : w.heap[b]? with
  | none => simp [hb] at h
  | some ob =>
    cases ob <;> simp [hb] at h
    rename_i cs t fr
    simp only [Option.map_some, Option.isSome_none, Bool.false_eq_true, if_false]
    have hlt : o < cs.size := by
      rcases Nat.lt_or_ge o cs.size with h' | h'
      · exact h'
      · rw [Array.getElem?_eq_none h'] at h; cases h
    simp [hlt]
theorem cell_set_ne (w : World) (b o : Nat) (v : Value) (b' o' : Nat) (h : b ≠ b' ∨ o ≠ o') : (w.setCell ⟨b, o, none⟩ v).cell? ⟨b', o', none⟩ = w.cell? ⟨b', o', none⟩ :=
  World.cell?_setCell_other w _ _ v (by intro e; injection e with e1 e2; omega)

/-- p holds of all numbers below n. -/
def allB (p : Nat → Bool) : Nat → Bool
  | 0 => true
  | n + 1 => allB p n && p n
theorem allB_iff {p : Nat → Bool} {n : Nat} : allB p n = true ↔ ∀ i, i < n → p i = true := by
  induction n with
  | zero => simp [allB]
  | succ n ih =>
    simp only [allB, Bool.and_eq_true, ih]
    constructor
    · rintro ⟨h1, h2⟩ i hi
      by_cases e : i = n
      · subst e; exact h2
      · exact h1 i (by omega)
    · intro h
      exact ⟨fun i hi => h i (by omega), h n (by omega)⟩
theorem allB_no {p : Nat → Bool} {n k : Nat} (hk : k < n) (h : p k = false) : allB p n = false := by
  cases hb : allB p n with
  | false => rfl
  | true => have := allB_iff.1 hb k hk; rw [h] at this; cases this
theorem allB_succ {p : Nat → Bool} {n : Nat} (h : allB p n = true) (h' : p n = true) : allB p (n + 1) = true := by simp [allB, h, h']
theorem allB_cong {p q : Nat → Bool} {n : Nat} (h : ∀ i, i < n → p i = q i) : allB p n = allB q n := by
  induction n with
  | zero => rfl
  | succ n ih => simp only [allB]; rw [ih (fun i hi => h i (by omega)), h n (by omega)]

/-- The first number below n of which p holds, or -1. -/
def findV (p : Nat → Bool) : Nat → Int
  | 0 => -1
  | n + 1 => if 0 ≤ findV p n then findV p n else if p n then n else -1
theorem findV_none {p : Nat → Bool} {n : Nat} (h : allB (fun i => !p i) n = true) : findV p n = -1 := by
  induction n with
  | zero => rfl
  | succ n ih =>
    simp only [allB, Bool.and_eq_true, Bool.not_eq_true'] at h
    simp only [findV]
    rw [ih h.1, h.2]; rfl
theorem findV_at {p : Nat → Bool} {n k : Nat} (h : allB (fun i => !p i) k = true) (hp : p k = true) (hk : k < n) : findV p n = k := by
  induction n with
  | zero => omega
  | succ n ih =>
    simp only [findV]
    by_cases e : k = n
    · subst e
      rw [findV_none h, if_neg (by omega), if_pos hp]
    · rw [ih (by omega), if_pos (by omega)]
/-- p holds of some number below n. -/
def hasB (p : Nat → Bool) (n : Nat) : Bool := !allB (fun i => !p i) n
theorem find_iff (p : Nat → Bool) (n : Nat) : 0 ≤ findV p n ↔ allB (fun i => !p i) n = false := by
  induction n with
  | zero => simp [findV, allB]
  | succ n ih =>
    have e : findV p (n + 1) = if 0 ≤ findV p n then findV p n else if p n then (n : Int) else -1 := rfl
    have e2 : allB (fun i => !p i) (n + 1) = (allB (fun i => !p i) n && !p n) := rfl
    rw [e, e2]
    by_cases h : 0 ≤ findV p n
    · rw [if_pos h]
      simp [ih.1 h, h]
    · rw [if_neg h]
      have : allB (fun i => !p i) n = true := by
        cases ha : allB (fun i => !p i) n with
        | true => rfl
        | false => exact absurd (ih.2 ha) h
      rw [this]
      cases hp : p n <;> simp
theorem hasB_find (p : Nat → Bool) (n : Nat) : decide (0 ≤ findV p n) = hasB p n := by
  unfold hasB
  cases ha : allB (fun i => !p i) n with
  | true => rw [findV_none ha]; rfl
  | false => simpa using (find_iff p n).2 ha
theorem hasB_iff {p : Nat → Bool} {n : Nat} : hasB p n = true ↔ ∃ i, i < n ∧ p i = true := by
  unfold hasB
  constructor
  · intro h
    have h' : ¬ allB (fun i => !p i) n = true := by simpa using h
    rw [allB_iff] at h'
    apply Classical.byContradiction
    intro hc
    apply h'
    intro i hi
    cases hp : p i with
    | false => rfl
    | true => exact absurd ⟨i, hi, hp⟩ hc
  · rintro ⟨i, hi, hp⟩
    rw [allB_no hi (by simp [hp])]; rfl
theorem cell_new2 (w : World) (u v : Value) (t : TypeId) : (w.alloc (.cells #[u, v] t)).cell? ⟨w.heap.size, 0, none⟩ = some u ∧ (w.alloc (.cells #[u, v] t)).cell? ⟨w.heap.size, 1, none⟩ = some v := by
  constructor <;> (unfold World.cell?; rw [heap_alloc_new]; rfl)

/-- The n rows of two numbers from ⟨b, o⟩ on. -/
def Row2 (w : World) (b o n : Nat) (X Y : Nat → Int) : Prop := ∀ i, i < n → w.cell? ⟨b, o + i * 2, none⟩ = some (.int .i64 (X i)) ∧ w.cell? ⟨b, o + i * 2 + 1, none⟩ = some (.int .i64 (Y i))

section
variable {w w' : World} {b o n : Nat} {X Y X' Y' : Nat → Int}
theorem Row2.lt (h : Row2 w b o n X Y) (hn : 0 < n) : b < w.heap.size := lt_of_cell (h 0 hn).1
theorem Row2.at0 (h : Row2 w b 0 n X Y) {k : Nat} (hk : k < n) : w.cell? ⟨b, k * 2, none⟩ = some (.int .i64 (X k)) ∧ w.cell? ⟨b, k * 2 + 1, none⟩ = some (.int .i64 (Y k)) := by
  have := h k hk; rwa [Nat.zero_add] at this
theorem Row2.up (h : Row2 w b o n X Y) (hb : Below w.heap.size w w') : Row2 w' b o n X Y := fun i hi => ⟨up_keep hb (h i hi).1, up_keep hb (h i hi).2⟩
theorem Row2.cong (h : Row2 w b o n X Y) (hx : ∀ i, i < n → X i = X' i) (hy : ∀ i, i < n → Y i = Y' i) : Row2 w b o n X' Y' := fun i hi => by rw [← hx i hi, ← hy i hi]; exact h i hi
theorem Row2.less (h : Row2 w b o n X Y) {m : Nat} (hm : m ≤ n) : Row2 w b o m X Y := fun i hi => h i (by omega)
theorem Row2.only (h : Row2 w b o n X Y) {row : Option Nat} (hg : w.grownBy w' row) (hr : row ≠ some b) : Row2 w' b o n X Y := fun i hi => by
  have e : ∀ o', w'.cell? ⟨b, o', none⟩ = w.cell? ⟨b, o', none⟩ := fun o' => World.cell?_of_block (hg.block b (lt_of_cell (h i hi).1) (Ne.symm hr))
  rw [e, e]; exact h i hi
theorem Row2.set1 (h : Row2 w b o n X Y) (k : Nat) (hk : k < n) (x : Int) : Row2 (w.setCell ⟨b, o + k * 2, none⟩ (.int .i64 x)) b o n (fun i => if i = k then x else X i) Y := fun i hi => by
  dsimp only
  by_cases e : i = k
  · subst e
    exact ⟨by rw [if_pos rfl]; exact cell_set_same _ _ _ _ _ (h i hi).1, by rw [cell_set_ne _ _ _ _ _ _ (by omega)]; exact (h i hi).2⟩
  · rw [if_neg e, cell_set_ne _ _ _ _ _ _ (by omega), cell_set_ne _ _ _ _ _ _ (by omega)]; exact h i hi
theorem Row2.set2 (h : Row2 w b o n X Y) (k : Nat) (hk : k < n) (y : Int) : Row2 (w.setCell ⟨b, o + k * 2 + 1, none⟩ (.int .i64 y)) b o n X (fun i => if i = k then y else Y i) := fun i hi => by
  dsimp only
  by_cases e : i = k
  · subst e
    exact ⟨by rw [cell_set_ne _ _ _ _ _ _ (by omega)]; exact (h i hi).1, by rw [if_pos rfl]; exact cell_set_same _ _ _ _ _ (h i hi).2⟩
  · rw [if_neg e, cell_set_ne _ _ _ _ _ _ (by omega), cell_set_ne _ _ _ _ _ _ (by omega)]; exact h i hi
end

theorem Row2.put {w : World} {b o n : Nat} {X Y : Nat → Int} (h : Row2 w b o n X Y) {k : Nat} (hk : k < n) (x y : Int) :
    Row2 ((w.setCell ⟨b, o + k * 2, none⟩ (.int .i64 x)).setCell ⟨b, o + k * 2 + 1, none⟩ (.int .i64 y)) b o n (fun i => if i = k then x else X i) (fun i => if i = k then y else Y i) := (h.set1 k hk x).set2 k hk y
theorem Row2.put0 {w : World} {b n : Nat} {X Y : Nat → Int} (h : Row2 w b 0 n X Y) {k : Nat} (hk : k < n) (x y : Int) :
    Row2 ((w.setCell ⟨b, k * 2, none⟩ (.int .i64 x)).setCell ⟨b, k * 2 + 1, none⟩ (.int .i64 y)) b 0 n (fun i => if i = k then x else X i) (fun i => if i = k then y else Y i) := by
  have := h.put hk x y; rwa [Nat.zero_add] at this
theorem size_set (w : World) (a : Addr) (v : Value) : (w.setCell a v).heap.size = w.heap.size := by simp [World.setCell]

/-- No cell of block b is frozen. -/
def Free (w : World) (b : Nat) : Prop := ∀ o, w.frozen? ⟨b, o, none⟩ = false
theorem Free.up {w w' : World} {b : Nat} (h : Free w b) (hlt : b < w.heap.size) (hb : Below w.heap.size w w') : Free w' b := fun o => by rw [hb.frozen (p := ⟨b, o, none⟩) hlt]; exact h o
theorem Free.set {w : World} {b : Nat} (h : Free w b) (a : Addr) (v : Value) : Free (w.setCell a v) b := fun o => by rw [World.frozen?_setCell]; exact h o
theorem Free.only {w w' : World} {b : Nat} (h : Free w b) (hlt : b < w.heap.size) {row : Option Nat} (hg : w.grownBy w' row) (hr : row ≠ some b) : Free w' b := fun o => by
  rw [World.frozen?_of_block (hg.block b hlt (Ne.symm hr))]; exact h o

/-- The slice value v reads as n spots. -/
def Spots (w : World) (v : Value) (n : Nat) (X Y : Nat → Int) : Prop := ∃ A c, v = .slice A n c ∧ n ≤ c ∧ (0 < n → ∃ b o, A = some ⟨b, o, none⟩ ∧ Row2 w b o n X Y)
theorem Spots.up {w w' : World} {v : Value} {n : Nat} {X Y : Nat → Int} (h : Spots w v n X Y) (hb : Below w.heap.size w w') : Spots w' v n X Y := by
  obtain ⟨A, c, hv, hc, hr⟩ := h
  exact ⟨A, c, hv, hc, fun hn => by obtain ⟨b, o, ha, h⟩ := hr hn; exact ⟨b, o, ha, h.up hb⟩⟩
theorem Spots.cong {w : World} {v : Value} {n : Nat} {X Y X' Y' : Nat → Int} (h : Spots w v n X Y) (hx : ∀ i, i < n → X i = X' i) (hy : ∀ i, i < n → Y i = Y' i) : Spots w v n X' Y' := by
  obtain ⟨A, c, hv, hc, hr⟩ := h
  exact ⟨A, c, hv, hc, fun hn => by obtain ⟨b, o, ha, h⟩ := hr hn; exact ⟨b, o, ha, h.cong hx hy⟩⟩

/-- The slice value v reads as n spots in memory of its own: in a block from base on, of which no cell is frozen. -/
def OwnS (base : Nat) (w : World) (v : Value) (n : Nat) (X Y : Nat → Int) : Prop := ∃ A c, v = .slice A n c ∧ n ≤ c ∧ (0 < n → ∃ b o, A = some ⟨b, o, none⟩ ∧ base ≤ b ∧ Free w b ∧ Row2 w b o n X Y)
section
variable {base : Nat} {w w' : World} {v : Value} {n : Nat} {X Y X' Y' : Nat → Int}
theorem OwnS.spots (h : OwnS base w v n X Y) : Spots w v n X Y := by
  obtain ⟨A, c, hv, hc, hr⟩ := h
  exact ⟨A, c, hv, hc, fun hn => by obtain ⟨b, o, ha, _, _, h⟩ := hr hn; exact ⟨b, o, ha, h⟩⟩
theorem OwnS.up (h : OwnS base w v n X Y) (hb : Below w.heap.size w w') : OwnS base w' v n X Y := by
  obtain ⟨A, c, hv, hc, hr⟩ := h
  exact ⟨A, c, hv, hc, fun hn => by obtain ⟨b, o, ha, h1, h2, h⟩ := hr hn; exact ⟨b, o, ha, h1, h2.up (h.lt hn) hb, h.up hb⟩⟩
theorem OwnS.cong (h : OwnS base w v n X Y) (hx : ∀ i, i < n → X i = X' i) (hy : ∀ i, i < n → Y i = Y' i) : OwnS base w v n X' Y' := by
  obtain ⟨A, c, hv, hc, hr⟩ := h
  exact ⟨A, c, hv, hc, fun hn => by obtain ⟨b, o, ha, h1, h2, h⟩ := hr hn; exact ⟨b, o, ha, h1, h2, h.cong hx hy⟩⟩
theorem OwnS.more (h : OwnS base w v n X Y) {base' : Nat} (hb : base' ≤ base) : OwnS base' w v n X Y := by
  obtain ⟨A, c, hv, hc, hr⟩ := h
  exact ⟨A, c, hv, hc, fun hn => by obtain ⟨b, o, ha, h1, h2, h⟩ := hr hn; exact ⟨b, o, ha, by omega, h2, h⟩⟩
end

/-- Returned: n spots in new memory; nothing that was there has turned. -/
def AnsS (w : World) (n : Nat) (X Y : Nat → Int) (e : Ending) (w' : World) : Prop := ∃ v, e = .returned v ∧ OwnS w.heap.size w' v n X Y ∧ Below w.heap.size w w'

theorem fromS {P : Program} {f : FuncId} {args : Array Value} {w0 w : World} {n : Nat} {X Y : Nat → Int} (h : Calls P f args w (AnsS w n X Y)) (h0 : Below w0.heap.size w0 w) :
    Calls P f args w fun e w' => ∃ v, e = .returned v ∧ OwnS w.heap.size w' v n X Y ∧ Below w.heap.size w w' ∧ Below w0.heap.size w0 w' := h.mono fun _ _ ⟨v, h1, h2, h3⟩ => ⟨v, h1, h2, h3, up_trans h0 h3⟩

theorem row2_made (w : World) (t : TypeId) (n : Nat) : Row2 (w.alloc (.cells (madeCells #[.int .i64 0, .int .i64 0] (n * 2)) t)) w.heap.size 0 n (fun _ => 0) (fun _ => 0) := fun i hi => by
  have hh : ∀ o, (w.alloc (.cells (madeCells #[.int .i64 0, .int .i64 0] (n * 2)) t)).cell? ⟨w.heap.size, o, none⟩ = (madeCells #[.int .i64 0, .int .i64 0] (n * 2))[o]? := fun o => by
    unfold World.cell?; rw [heap_alloc_new]; rfl
  rw [hh, hh]
  have h0 : (0 + i * 2) % 2 = 0 := by omega
  have h1 : (0 + i * 2 + 1) % 2 = 1 := by omega
  constructor
  · rw [madeCells, Array.getElem?_map, Array.getElem?_range, if_pos (by omega)]
    simp [h0]
  · rw [madeCells, Array.getElem?_map, Array.getElem?_range, if_pos (by omega)]
    simp [h1]
theorem free_made (w : World) (cs : Array Value) (t : TypeId) : Free (w.alloc (.cells cs t)) w.heap.size := fun o => by
  unfold World.frozen?; rw [heap_alloc_new]; simp

theorem run_make_rowN {P : Program} (t e : TypeId) (i : TypeInfo) (z : Value) (ht : P.underlying t = some (.slice e)) (hi : P.info? e = some i) (hz : i.zero = some z)
    (kl kc : IntKind) (n c : Nat) (hnc : n ≤ c) (hbytes : i.bytes * c ≤ 281474976710656) (h63 : c ≤ 9223372036854775807) (w : World) :
    (Instr.makeSlice t (.int kl (n : Int)) (.int kc (c : Int))).run P w = .ok (.slice (some ⟨w.heap.size, 0, none⟩) n c) (w.alloc (.cells (madeCells z.cells (c * i.size)) e)) := by
  have hb : (i.bytes : Int) * (c : Int) ≤ 281474976710656 := by
    have h : ((i.bytes * c : Nat) : Int) ≤ 281474976710656 := by omega
    rwa [Int.natCast_mul] at h
  have hr := run_make (P := P) w t e i z ht hi hz kl kc n c (by omega) (by omega) hb (by omega)
  simp only [Int.toNat_natCast] at hr
  exact hr

end Go.Proofs.YtbfhfjpfjkdcfaaGreatDoor
namespace Go.Proofs.YtbfhfjpfjkdcfaaGreatDoor
open Go.RowKit

set_option maxRecDepth 100000 in
theorem below_grown {base : Nat} {w w' : World} {row : Option Nat} (hg : w.grownBy w' row) (hb : base ≤ w.heap.size) (hr : ∀ k, row = some k → base ≤ k) : Below base w w' := (Below.refl base w).grown hg hb hr
/-- Two lists, one behind the other. -/
def cat (n : Nat) (X X' : Nat → Int) (i : Nat) : Int := if i < n then X i else X' (i - n)
set_option maxRecDepth 100000 in
theorem block_of_add (a : Addr) (n : Nat) : (a.add n).block = a.block := by unfold Addr.add; split <;> rfl
set_option maxRecDepth 100000 in
theorem cell_new4 (w : World) (a b c d : Value) (t : TypeId) : ∀ j u, [a, b, c, d][j]? = some u → (w.alloc (.cells #[a, b, c, d] t)).cell? ⟨w.heap.size, j, none⟩ = some u := by
  intro j u hu
  match j, hu with
  | 0, hu => simp only [List.getElem?_cons_zero, Option.some.injEq] at hu; subst hu; simp [go_sem]
  | 1, hu => simp only [List.getElem?_cons_succ, List.getElem?_cons_zero, Option.some.injEq] at hu; subst hu; simp [go_sem]
  | 2, hu => simp only [List.getElem?_cons_succ, List.getElem?_cons_zero, Option.some.injEq] at hu; subst hu; simp [go_sem]
  | 3, hu => simp only [List.getElem?_cons_succ, List.getElem?_cons_zero, Option.some.injEq] at hu; subst hu; simp [go_sem]
  | (n + 4), hu => simp at hu
theorem far_keep {W wa w9 : World} {row : Option Nat} (hb : Below W.heap.size W wa) (hg : wa.grownBy w9 row) {b o : Nat} {v : Value} (h : W.cell? ⟨b, o, none⟩ = some v) (hne : row ≠ some b) : w9.cell? ⟨b, o, none⟩ = some v :=
  (hg.cell_far ⟨b, o, none⟩ (lt_of_cell (up_keep hb h)) (Ne.symm hne)).trans (up_keep hb h)
theorem own_step {W wa : World} (hb : Below W.heap.size W wa) {r r' : Option Nat} (h : r' = r ∨ r' = some wa.heap.size) {b : Nat} (hne : r ≠ some b) (hlt : b < W.heap.size) : r' ≠ some b := by
  have := hb.size
  rcases h with rfl | rfl
  · exact hne
  · simp; omega
theorem cell_at {w : World} {a : Addr} {k : Nat} {u : Value} (h : w.cell? (a.add k) = some u) : w.cell? ⟨a.block, a.off + k, none⟩ = some u ∧ (k = 0 → a = ⟨a.block, a.off, none⟩) := by
  obtain ⟨b, o, s⟩ := a
  unfold Addr.add at h
  by_cases hk : k = 0
  · subst hk
    rw [if_pos rfl] at h
    cases s with
    | none => exact ⟨h, fun _ => rfl⟩
    | some q =>
      exfalso
      unfold World.cell? at h
      split at h <;> simp at h
  · rw [if_neg hk] at h
    exact ⟨h, fun e => absurd e hk⟩
end Go.Proofs.YtbfhfjpfjkdcfaaGreatDoor
namespace Go.Proofs.YtbfhfjpfjkdcfaaGreatDoor
open Go.RowKit Go.ChangeShapes Go.WideShapes Go.Sort

section
variable {H : Type} {enc : TypeId × Value → H} {w : World} {base b0 : Nat} {sp : Nat → Bool} {held : Bool} {r : Reach} {v : Value} {d : DataW H} {p : List MemPlace}

theorem array5 {α : Type} {cs : Array α} (h : cs.size = 5) : ∃ c0 c1 c2 c3 c4, cs = #[c0, c1, c2, c3, c4] := by
  obtain ⟨l⟩ := cs
  match l, h with
  | [c0, c1, c2, c3, c4], _ => exact ⟨c0, c1, c2, c3, c4, rfl⟩
end
end Go.Proofs.YtbfhfjpfjkdcfaaGreatDoor
namespace Go.Proofs.YtbfhfjpfjkdcfaaGreatDoor
open Go.RowKit

end Go.Proofs.YtbfhfjpfjkdcfaaGreatDoor
namespace Go.Proofs.YtbfhfjpfjkdcfaaGreatDoor
open Go.RowKit Go.Sort

/-- Two spots are equal. -/
def same (x y u v : Int) : Bool := x == u && y == v
theorem eql_spot (x y u v : Int) (w : World) : (binOp .eql 42 (.agg #[.int .i64 x, .int .i64 y]) (.agg #[.int .i64 u, .int .i64 v])).run Tryz.prog w = .ok (.bool (same x y u v)) w := by
  have u3 := Tryz.underlying3
  have a3 := Tryz.isAgg3
  have z3 := Tryz.sizeOf3
  have hS : Tryz.prog.underlying 42 = some (.struct (Tryz.prog.fieldsOf 42)) := by kernel_rfl
  have hp : Tryz.prog.stoodInHeld 42 = false := by kernel_rfl
  unfold same
  rw [run_eql_struct, show (10000 : Nat) = 9999 + 1 from rfl, run_equalIn_agg w 9999 42 _ _ hS hp]
  simp only [Program.fieldsOf, Tryz.underlying42]
  go_simp
  by_cases h1 : x = u <;> by_cases h2 : y = v <;> simp [h1, h2]
set_option maxHeartbeats 1000000 in
theorem index_any (v : Value) (n : Nat) (X Y : Nat → Int) (x y : Int) (hn : n ≤ 9223372036854775807) (w : World) (h : Spots w v n X Y) :
    Calls Tryz.prog 54 #[v, .agg #[.int .i64 x, .int .i64 y]] w (Ans w (.int .i64 (findV (fun i => same x y (X i) (Y i)) n))) := by
  obtain ⟨A, c, rfl, hnc, hrow⟩ := h
  obtain ⟨r, hr⟩ : ∃ r, r = findV (fun i => same x y (X i) (Y i)) n := ⟨_, rfl⟩
  rw [← hr]
  have HE := Lib.hid hr
  clear hr
  go_enter Tryz.func54, Tryz.ntmps54
  go_wp2_with fail
  have hnew := cell_new2 w (.int .i64 x) (.int .i64 y) 42
  generalize hW : World.alloc _ _ = W at *
  have hb0 : Below w.heap.size w W := by subst hW; (repeat (first | with_reducible exact Below.refl _ _ | with_reducible assumption | with_reducible refine up_alloc ?_ _ | with_reducible refine up_drew ?_ | with_reducible refine up_drewN ?_ _ | (with_reducible refine up_set ?_ ?hset _; case hset => first | (simp; done) | (simp; omega) | omega) | with_reducible refine up_trans ?_ (by with_reducible assumption)))
  have hs : w.heap.size < W.heap.size := by subst hW; simp
  clear hW
  obtain ⟨g0, g1⟩ := hnew
  go_loopw [8] (fun i wr => ∃ k : Nat, k ≤ n ∧ i = .int .i64 k ∧ Below W.heap.size W wr ∧ allB (fun i => !same x y (X i) (Y i)) k = true) (fun i _ => n - (intOf i).toNat)
  case atStart => exact ⟨0, by omega, rfl, Below.refl _ _, rfl⟩
  case round =>
    obtain ⟨k, hk, rfl, hb, ha⟩ := hrel
    have HA := Lib.hid ha
    clear ha
    by_cases hlt : k < n
    · obtain ⟨b, o, rfl, hr⟩ := hrow (by omega)
      have c1 := up_keep hb (up_keep hb0 (hr k hlt).1)
      have c2 := up_keep hb (up_keep hb0 (hr k hlt).2)
      have c3 := up_keep hb g0
      have c4 := up_keep hb g1
      clear hr hrow
      cases hq : same x y (X k) (Y k) with
      | true =>
        have he : ∀ w, (binOp .eql 42 (.agg #[.int .i64 x, .int .i64 y]) (.agg #[.int .i64 (X k), .int .i64 (Y k)])).run Tryz.prog w = .ok (.bool true) w := fun w => by rw [eql_spot, hq]
        have HQ := Lib.hid hq
        clear hq
        go_wp2_with fail
        go_quiet (fail)
        go_wp2_with fail
        go_ret
        exact Ans.int (by rw [HE.out, findV_at HA.out HQ.out hlt]) (up_trans hb0 (up_drewN hb _))
      | false =>
        have he : ∀ w, (binOp .eql 42 (.agg #[.int .i64 x, .int .i64 y]) (.agg #[.int .i64 (X k), .int .i64 (Y k)])).run Tryz.prog w = .ok (.bool false) w := fun w => by rw [eql_spot, hq]
        have HQ := Lib.hid hq
        clear hq
        go_wp2_with fail
        go_quiet (fail)
        go_wp2_with fail
        go_roundw
        case rel => exact ⟨k + 1, by omega, by go_num, up_drewN hb _, allB_succ HA.out (by simp [HQ.out])⟩
        case measure => simp [intOf]; omega
    · have e : k = n := by omega
      subst e
      go_wp2_with fail
      go_ret
      exact Ans.int (by rw [HE.out, findV_none HA.out]) (up_trans hb0 hb)
set_option maxHeartbeats 1000000 in
theorem contains_any (v : Value) (n : Nat) (X Y : Nat → Int) (x y : Int) (hn : n ≤ 9223372036854775807) (w : World) (h : Spots w v n X Y) :
    Calls Tryz.prog 36 #[v, .agg #[.int .i64 x, .int .i64 y]] w (Ans w (.bool (hasB (fun i => same x y (X i) (Y i)) n))) := by
  have HC := Lib.hid (fun w' hb => index_any v n X Y x y hn w' (h.up hb))
  have HF := Lib.hid (hasB_find (fun i => same x y (X i) (Y i)) n)
  obtain ⟨A, c, rfl, hnc, hrow⟩ := h
  clear hrow
  generalize hr : findV (fun i => same x y (X i) (Y i)) n = r at *
  clear hr
  go_enter Tryz.func36, Tryz.ntmps36
  go_wp2_with ((go_at_call 54; refine (from0 (HC.out _ (by (repeat (first | with_reducible exact Below.refl _ _ | with_reducible assumption | with_reducible refine up_alloc ?_ _ | with_reducible refine up_drew ?_ | with_reducible refine up_drewN ?_ _ | (with_reducible refine up_set ?_ ?hset _; case hset => first | (simp; done) | (simp; omega) | omega) | with_reducible refine up_trans ?_ (by with_reducible assumption))))) (by first | exact hb0 | exact up_alloc hb0 _ | exact up_drew hb0 | exact up_drewN hb0 _ | exact Below.refl _ _)).mono ?_; rintro e w1 ⟨rfl, hb0⟩; obtain ⟨hc0, hf0⟩ := bcell hb0))
  go_ret
  exact Ans.bool HF.out (by (repeat (first | with_reducible exact Below.refl _ _ | with_reducible assumption | with_reducible refine up_alloc ?_ _ | with_reducible refine up_drew ?_ | with_reducible refine up_drewN ?_ _ | (with_reducible refine up_set ?_ ?hset _; case hset => first | (simp; done) | (simp; omega) | omega) | with_reducible refine up_trans ?_ (by with_reducible assumption))))
/-- n spots are a chart. -/
def okB (X Y : Nat → Int) (i : Nat) : Bool := spotB (X i) (Y i) && !hasB (fun j => same (X i) (Y i) (X j) (Y j)) i
def chartB (n : Nat) (X Y : Nat → Int) : Bool := inB n 1 12 && allB (okB X Y) n
theorem chartB_iff {n : Nat} {X Y : Nat → Int} : chartB n X Y = true ↔ (1 ≤ n ∧ n ≤ 12) ∧ (∀ i, i < n → spotB (X i) (Y i) = true) ∧ ∀ i j, i < n → j < i → ¬ (X i = X j ∧ Y i = Y j) := by
  unfold chartB
  rw [Bool.and_eq_true, inB_iff, allB_iff]
  constructor
  · rintro ⟨⟨h1, h2⟩, h⟩
    refine ⟨⟨by omega, by omega⟩, fun i hi => ?_, fun i j hi hj hc => ?_⟩
    · have := h i hi; unfold okB at this; rw [Bool.and_eq_true] at this; exact this.1
    · have := h i hi
      unfold okB at this
      rw [Bool.and_eq_true, Bool.not_eq_true'] at this
      have h3 : hasB (fun j => same (X i) (Y i) (X j) (Y j)) i = true := hasB_iff.2 ⟨j, hj, by unfold same; simp [hc.1, hc.2]⟩
      rw [this.2] at h3; cases h3
  · rintro ⟨⟨h1, h2⟩, hs, hd⟩
    refine ⟨⟨by omega, by omega⟩, fun i hi => ?_⟩
    unfold okB
    rw [Bool.and_eq_true, Bool.not_eq_true']
    refine ⟨hs i hi, ?_⟩
    cases hh : hasB (fun j => same (X i) (Y i) (X j) (Y j)) i with
    | false => rfl
    | true =>
      obtain ⟨j, hj, hp⟩ := hasB_iff.1 hh
      unfold same at hp
      simp only [Bool.and_eq_true, beq_iff_eq] at hp
      exact absurd hp (hd i j hi hj)
theorem chartB_cong {n : Nat} {X Y X' Y' : Nat → Int} (hx : ∀ i, i < n → X i = X' i) (hy : ∀ i, i < n → Y i = Y' i) : chartB n X Y = chartB n X' Y' := by
  cases h : chartB n X' Y' with
  | true =>
    rw [chartB_iff] at h ⊢
    exact ⟨h.1, fun i hi => by rw [hx i hi, hy i hi]; exact h.2.1 i hi, fun i j hi hj => by rw [hx i hi, hy i hi, hx j (by omega), hy j (by omega)]; exact h.2.2 i j hi hj⟩
  | false =>
    cases h' : chartB n X Y with
    | false => rfl
    | true =>
      exfalso
      have : chartB n X' Y' = true := by
        rw [chartB_iff] at h' ⊢
        exact ⟨h'.1, fun i hi => by rw [← hx i hi, ← hy i hi]; exact h'.2.1 i hi, fun i j hi hj => by rw [← hx i hi, ← hy i hi, ← hx j (by omega), ← hy j (by omega)]; exact h'.2.2 i j hi hj⟩
      rw [h] at this; cases this
set_option maxHeartbeats 1000000 in
theorem isChart_any (v : Value) (n : Nat) (X Y : Nat → Int) (hn : n ≤ 9223372036854775807) (w : World) (h : Spots w v n X Y) :
    Calls Tryz.prog 18 #[v] w (Ans w (.bool (chartB n X Y))) := by
  have HV := Lib.hid h
  have HW := Lib.hid (within_any (n : Int) 1 12)
  obtain ⟨A, c, rfl, hnc, hrow⟩ := h
  cases hin : inB n 1 12 with
  | false =>
    have HE := Lib.hid (show chartB n X Y = false by unfold chartB; rw [hin]; rfl)
    rw [hin] at HW
    clear hin hrow
    go_enter Tryz.func18, Tryz.ntmps18
    go_wp2_with ((go_at_call 34; refine (HW.out _).mono ?_; rintro e w1 ⟨rfl, rfl⟩))
    go_ret
    exact Ans.bool HE.out.symm (by (repeat (first | with_reducible exact Below.refl _ _ | with_reducible assumption | with_reducible refine up_alloc ?_ _ | with_reducible refine up_drew ?_ | with_reducible refine up_drewN ?_ _ | (with_reducible refine up_set ?_ ?hset _; case hset => first | (simp; done) | (simp; omega) | omega) | with_reducible refine up_trans ?_ (by with_reducible assumption))))
  | true =>
    have HE := Lib.hid (show chartB n X Y = allB (okB X Y) n by unfold chartB; rw [hin]; rfl)
    rw [hin] at HW
    clear hin
    go_enter Tryz.func18, Tryz.ntmps18
    go_wp2_with ((go_at_call 34; refine (HW.out _).mono ?_; rintro e w1 ⟨rfl, rfl⟩))
    go_loopw [11] (fun i wr => ∃ k : Nat, k ≤ n ∧ i = .int .i64 k ∧ Below w.heap.size w wr ∧ allB (okB X Y) k = true) (fun i _ => n - (intOf i).toNat)
    case atStart => exact ⟨0, by omega, rfl, Below.refl _ _, rfl⟩
    case round =>
      obtain ⟨k, hk, rfl, hb, ha⟩ := hrel
      have HA := Lib.hid ha
      clear ha
      by_cases hlt : k < n
      · obtain ⟨b, o, rfl, hr⟩ := hrow (by omega)
        have c1 := up_keep hb (hr k hlt).1
        have c2 := up_keep hb (hr k hlt).2
        have HS := Lib.hid (isSpot_any (X k) (Y k))
        have HC := Lib.hid (fun (W : World) (hB : Below w.heap.size w W) => contains_any (.slice (some ⟨b, o, none⟩) k c) k X Y (X k) (Y k) (by omega) W ⟨_, _, rfl, by omega, fun _ => ⟨_, _, rfl, (hr.up hB).less (by omega)⟩⟩)
        have HK := Lib.hid (show okB X Y k = (spotB (X k) (Y k) && !hasB (fun j => same (X k) (Y k) (X j) (Y j)) k) from rfl)
        have hkc : k ≤ c := by omega
        clear hr hrow
        cases hs : spotB (X k) (Y k) with
        | false =>
          rw [hs] at HS HK
          clear hs
          go_wp2_with fail
          have hnew := cell_new2 wr (.int .i64 (X k)) (.int .i64 (Y k)) 42
          generalize hW : World.alloc _ _ = W at *
          have hb1 : Below w.heap.size w W := by subst hW; (repeat (first | with_reducible exact Below.refl _ _ | with_reducible assumption | with_reducible refine up_alloc ?_ _ | with_reducible refine up_drew ?_ | with_reducible refine up_drewN ?_ _ | (with_reducible refine up_set ?_ ?hset _; case hset => first | (simp; done) | (simp; omega) | omega) | with_reducible refine up_trans ?_ (by with_reducible assumption)))
          clear hW
          have g0 := cell_regrown hnew.1
          have g1 := cell_regrown hnew.2
          clear hnew
          refine wp_region_up (by kernel_rfl) (by kernel_rfl) ?_
          repeat (go_big_quiet_step (exact up_of (fun W _ => HS.out W) _ _))
          refine wpQuiet_nil ?_
          intro w1 hb0
          obtain ⟨hc0, hf0⟩ := bcell hb0
          go_wp2_with fail
          go_ret
          exact Ans.bool (by rw [HE.out, allB_no hlt HK.out]) (by (repeat (first | with_reducible exact Below.refl _ _ | with_reducible assumption | with_reducible refine up_alloc ?_ _ | with_reducible refine up_drew ?_ | with_reducible refine up_drewN ?_ _ | (with_reducible refine up_set ?_ ?hset _; case hset => first | (simp; done) | (simp; omega) | omega) | with_reducible refine up_trans ?_ (by with_reducible assumption))))
        | true =>
          cases hh : hasB (fun j => same (X k) (Y k) (X j) (Y j)) k with
          | true =>
            rw [hs] at HS HK
            rw [hh] at HC HK
            clear hs hh
            go_wp2_with fail
            have hnew := cell_new2 wr (.int .i64 (X k)) (.int .i64 (Y k)) 42
            generalize hW : World.alloc _ _ = W at *
            have hb1 : Below w.heap.size w W := by subst hW; (repeat (first | with_reducible exact Below.refl _ _ | with_reducible assumption | with_reducible refine up_alloc ?_ _ | with_reducible refine up_drew ?_ | with_reducible refine up_drewN ?_ _ | (with_reducible refine up_set ?_ ?hset _; case hset => first | (simp; done) | (simp; omega) | omega) | with_reducible refine up_trans ?_ (by with_reducible assumption)))
            clear hW
            have g0 := cell_regrown hnew.1
            have g1 := cell_regrown hnew.2
            clear hnew
            refine wp_region_up (by kernel_rfl) (by kernel_rfl) ?_
            repeat (go_big_quiet_step (first | exact up_of (fun W _ => HS.out W) _ _ | exact up_of (fun W hB => HC.out W (up_trans hb1 hB)) _ _))
            refine wpQuiet_nil ?_
            intro w1 hb0
            obtain ⟨hc0, hf0⟩ := bcell hb0
            go_wp2_with fail
            go_ret
            exact Ans.bool (by rw [HE.out, allB_no hlt HK.out]) (by (repeat (first | with_reducible exact Below.refl _ _ | with_reducible assumption | with_reducible refine up_alloc ?_ _ | with_reducible refine up_drew ?_ | with_reducible refine up_drewN ?_ _ | (with_reducible refine up_set ?_ ?hset _; case hset => first | (simp; done) | (simp; omega) | omega) | with_reducible refine up_trans ?_ (by with_reducible assumption))))
          | false =>
            rw [hs] at HS HK
            rw [hh] at HC HK
            clear hs hh
            go_wp2_with fail
            have hnew := cell_new2 wr (.int .i64 (X k)) (.int .i64 (Y k)) 42
            generalize hW : World.alloc _ _ = W at *
            have hb1 : Below w.heap.size w W := by subst hW; (repeat (first | with_reducible exact Below.refl _ _ | with_reducible assumption | with_reducible refine up_alloc ?_ _ | with_reducible refine up_drew ?_ | with_reducible refine up_drewN ?_ _ | (with_reducible refine up_set ?_ ?hset _; case hset => first | (simp; done) | (simp; omega) | omega) | with_reducible refine up_trans ?_ (by with_reducible assumption)))
            clear hW
            have g0 := cell_regrown hnew.1
            have g1 := cell_regrown hnew.2
            clear hnew
            refine wp_region_up (by kernel_rfl) (by kernel_rfl) ?_
            repeat (go_big_quiet_step (first | exact up_of (fun W _ => HS.out W) _ _ | exact up_of (fun W hB => HC.out W (up_trans hb1 hB)) _ _))
            refine wpQuiet_nil ?_
            intro w1 hb0
            obtain ⟨hc0, hf0⟩ := bcell hb0
            go_wp2_with fail
            go_roundw
            case rel => exact ⟨k + 1, by omega, by go_num, by (repeat (first | with_reducible exact Below.refl _ _ | with_reducible assumption | with_reducible refine up_alloc ?_ _ | with_reducible refine up_drew ?_ | with_reducible refine up_drewN ?_ _ | (with_reducible refine up_set ?_ ?hset _; case hset => first | (simp; done) | (simp; omega) | omega) | with_reducible refine up_trans ?_ (by with_reducible assumption))), allB_succ HA.out HK.out⟩
            case measure => simp [intOf]; omega
      · have e : k = n := by omega
        subst e
        go_wp2_with fail
        go_ret
        exact Ans.bool (by rw [HE.out, HA.out]) hb
theorem isChart_g (v : Value) (n : Nat) (X Y : Nat → Int) (w : World) (h : Spots w v n X Y) (hn : n ≤ 9223372036854775807) : Calls Tryz.prog 18 #[v] w (Ans w (.bool (chartB n X Y))) := isChart_any v n X Y hn w h
theorem contains_g (v : Value) (n : Nat) (X Y : Nat → Int) (x y : Int) (w : World) (h : Spots w v n X Y) (hn : n ≤ 9223372036854775807) :
    Calls Tryz.prog 36 #[v, .agg #[.int .i64 x, .int .i64 y]] w (Ans w (.bool (hasB (fun i => same x y (X i) (Y i)) n))) := contains_any v n X Y x y hn w h
set_option maxHeartbeats 2000000 in
theorem chGood_any (v : Value) (n : Nat) (X Y : Nat → Int) (hn : n ≤ 9223372036854775807) (w : World) (h : Spots w v n X Y) :
    Calls Tryz.prog 25 #[v] w (Ans w (.bool (chartB n X Y))) := by
  have HW := Lib.hid (l1In_any (n : Int) 1 12)
  obtain ⟨A, c, rfl, hnc, hrow⟩ := h
  obtain ⟨q, hq⟩ : ∃ q, q = inB n 1 12 := ⟨_, rfl⟩
  rw [← hq] at HW
  have HE := Lib.hid (show chartB n X Y = (q && allB (okB X Y) n) by unfold chartB; rw [hq])
  clear hq
  go_enter Tryz.func25, Tryz.ntmps25
  go_wp2_with fail
  go_loopw [9] (fun i wr => ∃ k : Nat, k ≤ n ∧ i = .int .i64 k ∧ Below w.heap.size w wr ∧ allB (okB X Y) k = true) (fun i _ => n - (intOf i).toNat)
  case atStart => exact ⟨0, by omega, rfl, Below.refl _ _, rfl⟩
  case round =>
    obtain ⟨k, hk, rfl, hb, ha⟩ := hrel
    have HA := Lib.hid ha
    clear ha
    by_cases hlt : k < n
    · obtain ⟨b, o, rfl, hr⟩ := hrow (by omega)
      have c1 := up_keep hb (hr k hlt).1
      have c2 := up_keep hb (hr k hlt).2
      have HR := Lib.hid hr
      have HS := Lib.hid (stGood_any (X k) (Y k))
      have HK := Lib.hid (show okB X Y k = (spotB (X k) (Y k) && !hasB (fun j => same (X k) (Y k) (X j) (Y j)) k) from rfl)
      have hkc : k ≤ c := by omega
      clear hr hrow
      cases hs : spotB (X k) (Y k) with
      | false =>
        rw [hs] at HS HK
        clear hs
        go_wp2_with ((go_at_call 48; refine (from0 (HS.out _) (by first | exact hb0 | exact up_alloc hb0 _ | exact up_drew hb0 | exact up_drewN hb0 _ | exact Below.refl _ _)).mono ?_; rintro e w1 ⟨rfl, hb0⟩; obtain ⟨hc0, hf0⟩ := bcell hb0))
        go_ret
        exact Ans.bool (by rw [HE.out, allB_no hlt HK.out, Bool.and_false]) (by (repeat (first | with_reducible exact Below.refl _ _ | with_reducible assumption | with_reducible refine up_alloc ?_ _ | with_reducible refine up_drew ?_ | with_reducible refine up_drewN ?_ _ | (with_reducible refine up_set ?_ ?hset _; case hset => first | (simp; done) | (simp; omega) | omega) | with_reducible refine up_trans ?_ (by with_reducible assumption))))
      | true =>
        rw [hs] at HS HK
        clear hs
        go_wp2_with ((go_at_call 48; refine (from0 (HS.out _) (by first | exact hb0 | exact up_alloc hb0 _ | exact up_drew hb0 | exact up_drewN hb0 _ | exact Below.refl _ _)).mono ?_; rintro e w1 ⟨rfl, hb0⟩; obtain ⟨hc0, hf0⟩ := bcell hb0))
        have g0 := up_keep hb0 (cell_new2 wr (.int .i64 (X k)) (.int .i64 (Y k)) 42).1
        have g1 := up_keep hb0 (cell_new2 wr (.int .i64 (X k)) (.int .i64 (Y k)) 42).2
        have hz : wr.heap.size < w1.heap.size := by have := hb0.size; simp at this; omega
        have hb1 : Below w.heap.size w w1 := by (repeat (first | with_reducible exact Below.refl _ _ | with_reducible assumption | with_reducible refine up_alloc ?_ _ | with_reducible refine up_drew ?_ | with_reducible refine up_drewN ?_ _ | (with_reducible refine up_set ?_ ?hset _; case hset => first | (simp; done) | (simp; omega) | omega) | with_reducible refine up_trans ?_ (by with_reducible assumption)))
        clear hc0 hf0 hb0
        obtain ⟨wo, rfl⟩ : ∃ wo : World, wo = wr := ⟨_, rfl⟩
        obtain ⟨wp, rfl⟩ : ∃ wp : World, wp = w1 := ⟨_, rfl⟩
        go_loopw [21] (fun i wi => ∃ j : Nat, j ≤ k ∧ i = .int .i64 j ∧ Below wp.heap.size wp wi ∧ allB (fun j => !same (X k) (Y k) (X j) (Y j)) j = true) (fun i _ => k - (intOf i).toNat)
        case atStart => exact ⟨0, by omega, rfl, Below.refl _ _, rfl⟩
        case round =>
          obtain ⟨j, hj, rfl, hbi, hai⟩ := hrel
          have HI := Lib.hid hai
          clear hai
          by_cases hjk : j < k
          · have d1 := up_keep hbi (up_keep hb1 (HR.out j (by omega)).1)
            have d2 := up_keep hbi (up_keep hb1 (HR.out j (by omega)).2)
            have e1 := up_keep hbi g0
            have e2 := up_keep hbi g1
            have hzz := Nat.lt_of_lt_of_le hz hbi.size
            cases hq : same (X k) (Y k) (X j) (Y j) with
            | true =>
              have he : ∀ w, (binOp .eql 42 (.agg #[.int .i64 (X k), .int .i64 (Y k)]) (.agg #[.int .i64 (X j), .int .i64 (Y j)])).run Tryz.prog w = .ok (.bool true) w := fun w => by rw [eql_spot, hq]
              have HQ := Lib.hid hq
              clear hq
              go_wp2_with fail
              go_ret
              exact Ans.bool (by rw [HE.out, allB_no hlt (by rw [HK.out, hasB_iff.2 ⟨j, hjk, HQ.out⟩]; rfl), Bool.and_false]) (by (repeat (first | with_reducible exact Below.refl _ _ | with_reducible assumption | with_reducible refine up_alloc ?_ _ | with_reducible refine up_drew ?_ | with_reducible refine up_drewN ?_ _ | (with_reducible refine up_set ?_ ?hset _; case hset => first | (simp; done) | (simp; omega) | omega) | with_reducible refine up_trans ?_ (by with_reducible assumption))))
            | false =>
              have he : ∀ w, (binOp .eql 42 (.agg #[.int .i64 (X k), .int .i64 (Y k)]) (.agg #[.int .i64 (X j), .int .i64 (Y j)])).run Tryz.prog w = .ok (.bool false) w := fun w => by rw [eql_spot, hq]
              have HQ := Lib.hid hq
              clear hq
              go_wp2_with fail
              go_roundw
              case rel => exact ⟨j + 1, by omega, by go_num, up_alloc hbi _, allB_succ HI.out (by rw [HQ.out]; rfl)⟩
              case measure => simp [intOf]; omega
          · have e : j = k := by omega
            subst e
            go_wp2_with fail
            go_roundw
            case rel => exact ⟨j + 1, by omega, by go_num, up_trans hb1 hbi, allB_succ HA.out (by rw [HK.out]; unfold hasB; rw [HI.out]; rfl)⟩
            case measure => simp [intOf]; omega
    · have e : k = n := by omega
      subst e
      go_wp2_with ((go_at_call 49; refine (HW.out _).mono ?_; rintro e w1 ⟨rfl, rfl⟩))
      go_ret
      exact Ans.bool (by rw [HE.out, HA.out, Bool.and_true]) (by (repeat (first | with_reducible exact Below.refl _ _ | with_reducible assumption | with_reducible refine up_alloc ?_ _ | with_reducible refine up_drew ?_ | with_reducible refine up_drewN ?_ _ | (with_reducible refine up_set ?_ ?hset _; case hset => first | (simp; done) | (simp; omega) | omega) | with_reducible refine up_trans ?_ (by with_reducible assumption))))
theorem chGood_g (v : Value) (n : Nat) (X Y : Nat → Int) (w : World) (h : Spots w v n X Y) (hn : n ≤ 9223372036854775807) : Calls Tryz.prog 25 #[v] w (Ans w (.bool (chartB n X Y))) := chGood_any v n X Y hn w h
end Go.Proofs.YtbfhfjpfjkdcfaaGreatDoor
