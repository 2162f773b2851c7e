/-
  Pieces of a function's code.
-/
import Derived.Test.YtbfhfjpfjkdcfaaRows
import Derived.Test.YtbfhfjpfjkdcfaaBase
namespace Go.Proofs.Ytbfhfjpfjkdcfaa
open Go.RowKit Go.ChangeShapes Go.WideShapes Go.Sort

/-- The region with number n in a code. -/
def findRegion (n : Nat) : Code → Option Code
  | .region id l b => if id = n then some (.region id l b) else none
  | .seq a b => match findRegion n a with
    | some c => some c
    | none => findRegion n b
  | .cond _ a b => match findRegion n a with
    | some c => some c
    | none => findRegion n b
  | .loop c => findRegion n c
  | .block _ c => findRegion n c
  | .scope c => findRegion n c
  | _ => none
/-- The 'if' over slot n in a code. -/
def findIf (n : Nat) : Code → Option Code
  | .cond (.tmp m) a b => if m = n then some (.cond (.tmp m) a b) else match findIf n a with
    | some c => some c
    | none => findIf n b
  | .cond _ a b => match findIf n a with
    | some c => some c
    | none => findIf n b
  | .seq a b => match findIf n a with
    | some c => some c
    | none => findIf n b
  | .loop c => findIf n c
  | .block _ c => findIf n c
  | .scope c => findIf n c
  | _ => none
/-- The number of a code's first region. -/
def firstRegion : Code → Option Nat
  | .region id _ _ => some id
  | .seq a b => match firstRegion a with
    | some c => some c
    | none => firstRegion b
  | .cond _ a b => match firstRegion a with
    | some c => some c
    | none => firstRegion b
  | .loop c => firstRegion c
  | .block _ c => firstRegion c
  | .scope c => firstRegion c
  | _ => none
/-- The loop whose first region is n. -/
def findLoop (n : Nat) : Code → Option Code
  | .loop c => if firstRegion c = some n then some (.loop c) else findLoop n c
  | .seq a b => match findLoop n a with
    | some c => some c
    | none => findLoop n b
  | .cond _ a b => match findLoop n a with
    | some c => some c
    | none => findLoop n b
  | .block _ c => findLoop n c
  | .scope c => findLoop n c
  | _ => none
/-- A region in the order of its text, by the quiet walk. -/
theorem wpList_of_quiet {P : Program} {ops : Array Oper} {C : World → Prop} {Q : Exit → Act → World → Prop} : ∀ (l : List Oper) (a : Act) (w : World), C w →
    wpQuiet P ops C (fun a' => ∀ w', C w' → Q .normal a' w') l a → wpList P ops Q l a w := by
  intro l
  induction l with
  | nil => intro a w hC h; exact h w hC
  | cons o rest ih =>
    intro a w hC h
    unfold wpQuiet at h
    unfold wpList
    split
    · rename_i hw
      rw [if_pos hw] at h
      obtain ⟨v, h1, h2⟩ := h
      refine .inl ?_
      have hq := h1 w hC
      unfold Oper.quietAt at hq
      unfold Oper.wp
      revert hq
      cases hr : (execOp a.eval o).run P w with
      | ok n w' =>
        cases n with
        | value u => rintro ⟨rfl, rfl⟩; exact ih _ _ hC h2
        | skip => rintro ⟨rfl, rfl⟩; exact ih _ _ hC h2
        | enter f args =>
          rintro ⟨rfl, hc⟩
          refine hc.mono ?_
          rintro e w'' ⟨rfl, hC'⟩
          exact ih _ _ hC' h2
        | _ => intro hq; exact hq.elim
      | _ => intro hq; exact hq.elim
    · rename_i hw
      rw [if_neg hw] at h
      exact ih _ _ hC h
theorem wp_region_upP {P : Program} {id : Nat} {Q : Exit → Act → World → Prop} {a : Act} {w : World} {l : List Oper}
    (h : wpQuiet P l.toArray (fun w' => ∃ p : Regrown, w' = grow (redrawn w p.d) p.os) (fun a' => ∀ w', Below w.heap.size w w' → Q .normal a' w') l a) : (Code.region id l.toArray false).wp P Q a w := by
  have mono : ∀ (l' : List Oper) (a : Act), wpQuiet P l.toArray (fun w' => ∃ p : Regrown, w' = grow (redrawn w p.d) p.os) (fun a' => ∀ w', Below w.heap.size w w' → Q .normal a' w') l' a →
      wpQuiet P l.toArray (fun w' => ∃ p : Regrown, w' = grow (redrawn w p.d) p.os) (fun a' => ∀ w', (∃ p : Regrown, w' = grow (redrawn w p.d) p.os) → Q .normal a' w') l' a := by
    intro l'
    induction l' with
    | nil => intro a h w' hw'; obtain ⟨p, rfl⟩ := hw'; exact h _ (below_regrown _ _ _)
    | cons o rest ih =>
      intro a h
      unfold wpQuiet at h ⊢
      split
      · rename_i hw; rw [if_pos hw] at h; exact Oper.quiet_mono (fun a => ih a) h
      · rename_i hw; rw [if_neg hw] at h; exact ih _ h
  exact wp_region_lit (wpList_of_quiet l a w ⟨⟨w.drawn, #[]⟩, by rw [grow_empty]; rfl⟩ (mono l a h))
end Go.Proofs.Ytbfhfjpfjkdcfaa
