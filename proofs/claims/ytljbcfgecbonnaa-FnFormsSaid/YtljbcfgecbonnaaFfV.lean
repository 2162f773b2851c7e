/-
  What FnFormChanges meets, gathered.
-/
import Derived.Test.YtljbcfgecbonnaaRows
import Derived.Test.YtljbcfgecbonnaaBase
import Derived.Test.YtljbcfgecbonnaaSpot
import Derived.Test.YtljbcfgecbonnaaSlice
import Derived.Test.YtljbcfgecbonnaaLawS
import Derived.Test.YtljbcfgecbonnaaMark
import Derived.Test.YtljbcfgecbonnaaInts
import Derived.Test.YtljbcfgecbonnaaIntsL
import Derived.Test.YtljbcfgecbonnaaTurned
import Derived.Test.YtljbcfgecbonnaaTrans
import Derived.BigQuiet
import Derived.Test.YtljbcfgecbonnaaCur
import Derived.Test.YtljbcfgecbonnaaDrawP
import Derived.Test.YtljbcfgecbonnaaOpen
import Derived.Test.YtljbcfgecbonnaaDrawV
import Derived.Test.YtljbcfgecbonnaaAppend
import Derived.Test.YtljbcfgecbonnaaAppendE
import Derived.Test.YtljbcfgecbonnaaSameForm
import Derived.Deep.LoopGhost
import Derived.Deep.Onto
import Derived.Deep.CutRange
import Derived.Deep.DeepCutAuto
import Derived.Deep.RegionHeld3
import Derived.Test.YtljbcfgecbonnaaDrawW
import Derived.Test.YtljbcfgecbonnaaDrawZ
import Derived.Test.YtljbcfgecbonnaaBytes
import Derived.Test.YtljbcfgecbonnaaPiece
import Derived.Test.YtljbcfgecbonnaaDrawJ
import Derived.Test.YtljbcfgecbonnaaQ
import Derived.Test.YtljbcfgecbonnaaPs
import Derived.Test.YtljbcfgecbonnaaJoin
import Derived.Test.YtljbcfgecbonnaaBounds
import Derived.Test.YtljbcfgecbonnaaMiddle
import Derived.Test.YtljbcfgecbonnaaClosest
import Derived.Test.YtljbcfgecbonnaaSpread
import Derived.Test.YtljbcfgecbonnaaFfP
namespace Go.Proofs.Ytljbcfgecbonnaa
open Go.RowKit Go.ChangeShapes Go.WideShapes Go.Sort

/-- What BoundsOf, MiddleSpot and InnerRoom hand back, by name. -/
structure FfV (n : Nat) (X Y : Nat → Int) (lx ly hx hy mx my rm : Int) (cb : Bool) : Prop where
  ch : chartB n X Y = cb
  bnd : bndV n X Y = .tuple #[.agg #[.int .i64 lx, .int .i64 ly], .agg #[.int .i64 hx, .int .i64 hy], .bool cb]
  mid : midV n X Y = .tuple #[.agg #[.int .i64 mx, .int .i64 my], .bool cb]
  irv : irV n X Y = .tuple #[.int .i64 rm, .bool cb]
  lows : cb = true → ∀ i, i < n → lx ≤ X i ∧ ly ≤ Y i ∧ X i ≤ hx ∧ Y i ≤ hy
  mids : cb = true → lx ≤ mx ∧ ly ≤ my ∧ mx ≤ hx ∧ my ≤ hy
  one : cb = true → ((rm == 0) = ((n : Int) == 1))
theorem ff_vals (n : Nat) (X Y : Nat → Int) : ∃ lx ly hx hy mx my rm cb, FfV n X Y lx ly hx hy mx my rm cb := by
  cases hc : chartB n X Y with
  | false => exact ⟨0, 0, 0, 0, 0, 0, 0, false, hc, by simp [bndV, hc], by simp [midV, hc], by simp [irV, hc], fun h => absurd h (by simp), fun h => absurd h (by simp), fun h => absurd h (by simp)⟩
  | true =>
    obtain ⟨⟨hn1, hn2⟩, _⟩ := chartB_iff.1 hc
    have hm := mid_in X hn1
    have hm' := mid_in Y hn1
    have hl := fun i (hi : i < n) => And.intro (bdLo_le X n i hi) (And.intro (bdLo_le Y n i hi) (And.intro (bdHi_ge X n i hi) (bdHi_ge Y n i hi)))
    by_cases h2 : 2 ≤ n
    · have hr := room_pos hc h2
      refine ⟨bdLo X n, bdLo Y n, bdHi X n, bdHi Y n, rd (sumN X n) n, rd (sumN Y n) n, sqD X Y (cp (sqD X Y) n).1 (cp (sqD X Y) n).2, true, hc, by simp [bndV, hc], by simp [midV, hc], by simp [irV, hc, h2], fun _ => hl, fun _ => ⟨hm.1, hm'.1, hm.2, hm'.2⟩, fun _ => ?_⟩
      rw [show ((n : Int) == 1) = false by simp; omega]
      simp
      omega
    · have e : n = 1 := by omega
      subst e
      exact ⟨bdLo X 1, bdLo Y 1, bdHi X 1, bdHi Y 1, rd (sumN X 1) 1, rd (sumN Y 1) 1, 0, true, hc, by simp [bndV, hc], by simp [midV, hc], by simp [irV, hc], fun _ => hl, fun _ => ⟨hm.1, hm'.1, hm.2, hm'.2⟩, fun _ => rfl⟩
/-- A box with a spot. -/
structure Box2 (w : World) (b : Nat) (x y : Int) : Prop where
  c0 : w.cell? ⟨b, 0, none⟩ = some (.int .i64 x)
  c1 : w.cell? ⟨b, 1, none⟩ = some (.int .i64 y)
theorem Box2.up {w w' : World} {b : Nat} {x y : Int} (h : Box2 w b x y) (hb : Below w.heap.size w w') : Box2 w' b x y := ⟨up_keep hb h.c0, up_keep hb h.c1⟩
theorem Box2.new (w : World) (x y : Int) (t : TypeId) : Box2 (w.alloc (.cells #[.int .i64 x, .int .i64 y] t)) w.heap.size x y := ⟨by simp [go_sem], by simp [go_sem]⟩
theorem OwnR.emptyAt {base g : Nat} {w : World} (hb : base ≤ w.heap.size) (hg : g = w.heap.size) (X Y : Nat → Int) : OwnR base (w.alloc (.cells #[] 33)) (.slice (some ⟨g, 0, none⟩) 0 0) 0 X Y := by
  subst hg; exact OwnR.empty hb X Y
theorem cells2_at {w : World} {b o m : Nat} {X Y : Nat → Int} (hr : Row2 w b o m X Y) (j : Nat) (u : Value) (hu : (cells2 X Y m)[j]? = some u) : w.cell? ((⟨b, o, none⟩ : Addr).add j) = some u := by
  have hj : j < m * 2 := by
    rcases Nat.lt_or_ge j (m * 2) with h | h
    · exact h
    · rw [List.getElem?_eq_none (by rw [cells2_len]; exact h)] at hu; cases hu
  rw [add_none]
  have hd := cells2_get X Y m (j / 2) (by omega)
  rcases (by omega : j = j / 2 * 2 ∨ j = j / 2 * 2 + 1) with e | e
  · rw [e] at hu ⊢
    rw [hd.1] at hu
    injection hu with hu
    rw [← hu]
    exact (hr _ (by omega)).1
  · rw [e] at hu ⊢
    rw [hd.2] at hu
    injection hu with hu
    rw [← hu, ← Nat.add_assoc]
    exact (hr _ (by omega)).2
theorem cat_old {n : Nat} {X X' : Nat → Int} (i : Nat) (hi : i < n) : X i = cat n X X' i := by unfold cat; rw [if_pos hi]
/-- Spreading by 100 percent changes nothing. -/
theorem iSpread_100 (v : Value) (n : Nat) (X Y : Nat → Int) (w : World) (h : Spots w v n X Y) (hn : n ≤ 1048576) (hc : chartB n X Y = true) : Calls Try.prog 21 #[v, .int .i64 100] w (AnsSB w n X Y true) := by
  have HS := iSpreadForm_any v n X Y 100 w h hn
  rw [spB_100 hc] at HS
  refine HS.mono ?_
  rintro e w' ⟨v', rfl, ho, hb⟩
  exact ⟨v', rfl, ho.cong (fun i _ => spX_100 X _ i) (fun i _ => spX_100 Y _ i), hb⟩
section
variable {ops : Array Oper} {o : Oper} {a : Act} {w : World} {K : Act → World → Prop} {Q : Exit → Act → World → Prop} {E : Prop} (hgd : o.guard = none) (s x : Operand)
    (ho : o.op = .call { callee := .builtin .append, args := #[s, x], argTypes := #[24, 24] })
include hgd ho
set_option maxRecDepth 100000 in
/-- 'append(out, l...)', l not empty; what was written is told. -/
theorem step_app_copy0
    (base : Nat) (v u : Value) (m : Nat) (X' Y' : Nat → Int) (hs : a.eval s = v) (hx : a.eval x = u) (hown : OwnR base w v 0 X' Y') (hsp : Spots w u m X' Y') (hbase : base ≤ w.heap.size) (hm : 1 ≤ m) (hn : m ≤ 1048576)
    (h : ∀ v' w', OwnR base w' v' m X' Y' → Below base w w' → w.grownBy w' v.ownBlock → K (a.put o.dst v') w') :
    if Region.wanted o (yielded ops a.tmps) = true then Oper.wp Try.prog o a w K Q else E := by
  have hw : Region.wanted o (yielded ops a.tmps) = true := by unfold Region.wanted; rw [hgd]
  rw [if_pos hw]
  obtain ⟨i0, hi0, hz0, hz1, hz2⟩ := info_parts info_spotA
  obtain ⟨A, c, e, hmc, hrow⟩ := hsp
  subst e
  obtain ⟨b, off, rfl, hr⟩ := hrow (by omega)
  obtain ⟨v', w', hrun, h1, h2, _⟩ := run_append_own_at (P := Try.prog) w base 24 o.type 33 i0 _ 2 16 Try.underlying24 hi0 hz0 hz1 hz2 rfl (by omega) v 0 _ hown ⟨b, off, none⟩ m c (cells2 X' Y' m) (cells2_len _ _ _)
    (fun j u hu => cells2_at hr j u hu) (cells2_one _ _ _) (by unfold maxLen; omega) (by omega) hbase
  unfold Oper.wp execOp
  simp only [ho, resolve, invoke, builtin, Sem.run_bind, Sem.run_pure, Result.andThen_ok, List.map_toArray, List.map_cons, List.map_nil, hs, hx, hrun]
  refine h _ _ ?_ (below_grown h2 hbase (fun k hk => (World.ownsRow.lt hown k hk).1)) h2
  rw [Nat.zero_add] at h1
  exact h1
theorem step_app_copy2
    (base : Nat) (v u : Value) (m : Nat) (X' Y' : Nat → Int) (hs : a.eval s = v) (hx : a.eval x = u) (hown : OwnR base w v 0 X' Y') (hsp : Spots w u m X' Y') (hbase : base ≤ w.heap.size) (hm : 1 ≤ m) (hn : m ≤ 1048576)
    (h : ∀ v' w', OwnR base w' v' m X' Y' → Below base w w' → K (a.put o.dst v') w') :
    if Region.wanted o (yielded ops a.tmps) = true then Oper.wp Try.prog o a w K Q else E :=
  step_app_copy0 hgd s x ho base v u m X' Y' hs hx hown hsp hbase hm hn (fun v' w' h1 h2 _ => h v' w' h1 h2)
/-- The same beside one spot's cells in a block of its own. -/
theorem step_app_copy3 (y : Operand)
    (base : Nat) (v u : Value) (m : Nat) (X' Y' : Nat → Int) {g : Nat} {p q : Value} (hs : a.eval s = v) (hx : a.eval x = u) (hy : a.eval y = .slice (some ⟨g, 0, none⟩) 1 1) (hc0 : w.cell? ⟨g, 0, none⟩ = some p) (hc1 : w.cell? ⟨g, 1, none⟩ = some q)
    (hne : v.ownBlock ≠ some g) (hown : OwnR base w v 0 X' Y') (hsp : Spots w u m X' Y') (hbase : base ≤ w.heap.size) (hm : 1 ≤ m) (hn : m ≤ 1048576)
    (h : ∀ v' w', OwnR base w' v' m X' Y' → Below base w w' → w'.cell? ⟨g, 0, none⟩ = some p → w'.cell? ⟨g, 1, none⟩ = some q → K (a.put o.dst v') w') :
    if Region.wanted o (yielded ops a.tmps) = true then Oper.wp Try.prog o a w K Q else E :=
  step_app_copy0 hgd s x ho base v u m X' Y' hs hx hown hsp hbase hm hn (fun v' w' h1 h2 h3 => h v' w' h1 h2 (far_keep (Below.refl _ _) h3 hc0 hne) (far_keep (Below.refl _ _) h3 hc1 hne))
end
set_option maxRecDepth 100000 in
set_option maxHeartbeats 4000000 in
theorem ff_r18 (B : Nat) (Al : Option Addr) (nl cl : Nat) (X1 Y1 : Nat → Int) (mx my : Int) (w : World)
    (s0 s1 s2 s3 s4 s5 s6 s7 s8 s9 s10 s12 s13 s14 s15 s16 s17 s18 s19 s21 s22 s23 s24 s25 s26 s27 s28 s29 s30 s31 s32 s33 s34 s35 s36 s37 s38 s39 s40 s41 s42 s43 s44 s45 s46 s47 s48 s49 s50 s51 s52 s53 s54 s55 s56 s57 s58 s59 s60 s61 s62 s63 s64 s65 s66 s67 s68 s69 s70 s71 s72 s73 s74 s75 s76 s77 s78 s79 s80 s81 s82 s83 s84 s85 s86 s87 s88 s89 s90 s91 s92 s93 s94 s95 s96 s97 s98 s99 s100 s101 s102 s103 s104 s105 s106 s107 s108 s109 s110 s111 s112 s113 s114 s115 s116 s117 s118 s119 s120 s121 s122 s123 s124 s125 s126 s127 s128 s129 s130 s131 s132 s133 s134 s135 s136 s137 s138 s139 s140 s141 s142 s143 s144 s145 s146 s147 s148 s149 s150 s151 s152 s153 s154 s155 s156 s157 s158 s159 s160 s161 s162 s163 s164 s165 s166 s167 s168 s169 s170 s171 s172 s173 s174 s175 s176 s177 s178 s179 s180 s181 s182 s183 s184 s185 s186 s187 s188 s189 s190 s191 s192 s193 s194 s195 s196 s197 s198 s199 s200 s201 s202 s203 s204 s205 s206 s207 s208 s209 s210 s211 s212 s213 s214 s215 s216 s217 s218 s219 s220 s221 s222 s223 s224 s225 s226 s227 s228 s229 s230 s231 s232 s233 s234 s235 s236 s237 s238 s239 s240 s241 s242 s243 s244 s245 s246 s247 s248 s249 s250 s251 s252 s253 s254 s255 s256 s257 s258 s259 s260 s261 : Value) (Q0 : Exit → Act → World → Prop)
    (hl16 : Spots w (.slice Al nl cl) nl X1 Y1) (hn1 : 1 ≤ nl ∧ nl ≤ 12) (z0 : w.cell? ⟨B, 0, none⟩ = some (.int .i64 mx)) (z1 : w.cell? ⟨B, 1, none⟩ = some (.int .i64 my)) (HX : Hid (cat nl X1 (fun _ => mx) nl = mx)) (HY : Hid (cat nl Y1 (fun _ => my) nl = my))
    (hQ : ∀ (A : Option Addr) (c : Nat) (w' : World) (u167 u168 u169 u170 u171 : Value), OwnR w.heap.size w' (.slice A (nl + 1) c) (nl + 1) (cat nl X1 (fun _ => mx)) (cat nl Y1 (fun _ => my)) → Below w.heap.size w w' → Q0 .normal ⟨#[s0, s1, s2, s3, s4, s5, s6, s7, s8, s9, s10, (.slice Al nl cl), s12, s13, s14, s15, s16, s17, s18, s19, (.pointer (some ⟨B, 0, none⟩)), s21, s22, s23, s24, s25, s26, s27, s28, s29, s30, s31, s32, s33, s34, s35, s36, s37, s38, s39, s40, s41, s42, s43, s44, s45, s46, s47, s48, s49, s50, s51, s52, s53, s54, s55, s56, s57, s58, s59, s60, s61, s62, s63, s64, s65, s66, s67, s68, s69, s70, s71, s72, s73, s74, s75, s76, s77, s78, s79, s80, s81, s82, s83, s84, s85, s86, s87, s88, s89, s90, s91, s92, s93, s94, s95, s96, s97, s98, s99, s100, s101, s102, s103, s104, s105, s106, s107, s108, s109, s110, s111, s112, s113, s114, s115, s116, s117, s118, s119, s120, s121, s122, s123, s124, s125, s126, s127, s128, s129, s130, s131, s132, s133, s134, s135, s136, s137, s138, s139, s140, s141, s142, s143, s144, s145, s146, s147, s148, s149, s150, s151, s152, s153, s154, s155, s156, s157, s158, s159, s160, s161, s162, s163, s164, s165, s166, u167, u168, u169, u170, u171, (.slice A (nl + 1) c), (.int .i64 ((nl : Int) + 1)), (.int .i64 ((0 : Nat) : Int)), s175, s176, s177, s178, s179, s180, s181, s182, s183, s184, s185, s186, s187, s188, s189, s190, s191, s192, s193, s194, s195, s196, s197, s198, s199, s200, s201, s202, s203, s204, s205, s206, s207, s208, s209, s210, s211, s212, s213, s214, s215, s216, s217, s218, s219, s220, s221, s222, s223, s224, s225, s226, s227, s228, s229, s230, s231, s232, s233, s234, s235, s236, s237, s238, s239, s240, s241, s242, s243, s244, s245, s246, s247, s248, s249, s250, s251, s252, s253, s254, s255, s256, s257, s258, s259, s260, s261], []⟩ w') :
    Code.wp Try.prog ((Try.f3.body.bind (findRegion 18)).getD .skip) Q0 ⟨#[s0, s1, s2, s3, s4, s5, s6, s7, s8, s9, s10, (.slice Al nl cl), s12, s13, s14, s15, s16, s17, s18, s19, (.pointer (some ⟨B, 0, none⟩)), s21, s22, s23, s24, s25, s26, s27, s28, s29, s30, s31, s32, s33, s34, s35, s36, s37, s38, s39, s40, s41, s42, s43, s44, s45, s46, s47, s48, s49, s50, s51, s52, s53, s54, s55, s56, s57, s58, s59, s60, s61, s62, s63, s64, s65, s66, s67, s68, s69, s70, s71, s72, s73, s74, s75, s76, s77, s78, s79, s80, s81, s82, s83, s84, s85, s86, s87, s88, s89, s90, s91, s92, s93, s94, s95, s96, s97, s98, s99, s100, s101, s102, s103, s104, s105, s106, s107, s108, s109, s110, s111, s112, s113, s114, s115, s116, s117, s118, s119, s120, s121, s122, s123, s124, s125, s126, s127, s128, s129, s130, s131, s132, s133, s134, s135, s136, s137, s138, s139, s140, s141, s142, s143, s144, s145, s146, s147, s148, s149, s150, s151, s152, s153, s154, s155, s156, s157, s158, s159, s160, s161, s162, s163, s164, s165, s166, s167, s168, s169, s170, s171, s172, s173, s174, s175, s176, s177, s178, s179, s180, s181, s182, s183, s184, s185, s186, s187, s188, s189, s190, s191, s192, s193, s194, s195, s196, s197, s198, s199, s200, s201, s202, s203, s204, s205, s206, s207, s208, s209, s210, s211, s212, s213, s214, s215, s216, s217, s218, s219, s220, s221, s222, s223, s224, s225, s226, s227, s228, s229, s230, s231, s232, s233, s234, s235, s236, s237, s238, s239, s240, s241, s242, s243, s244, s245, s246, s247, s248, s249, s250, s251, s252, s253, s254, s255, s256, s257, s258, s259, s260, s261], []⟩ w := by
  conv => arg 2; whnf
  go_region_held3 (fun w' => w'.cell? ⟨B, 0, none⟩ = some (.int .i64 mx) ∧ w'.cell? ⟨B, 1, none⟩ = some (.int .i64 my))
    (first | exact ⟨by assumption, by assumption⟩ | go_keep) (first
      | (refine step_app_copy3 rfl (.tmp 167) (.tmp 168) rfl (.tmp 171) w.heap.size _ _ nl X1 Y1 rfl rfl rfl (show _ = some (.int .i64 mx) by simp [go_sem]) (show _ = some (.int .i64 my) by simp [go_sem]) (by show (some _ : Option Nat) ≠ some _; simp) (by first | exact OwnR.empty (by simp) _ _ | exact OwnR.emptyAt (by simp) (by simp) _ _ | exact (OwnR.empty (by simp) _ _).up (by (repeat (first | with_reducible exact Below.refl _ _ | with_reducible assumption | with_reducible refine up_alloc ?_ _ | with_reducible refine up_drew ?_ | with_reducible refine up_drewN ?_ _ | (with_reducible refine up_set ?_ ?hset _; case hset => first | (simp; done) | (simp; omega) | omega) | with_reducible refine up_trans ?_ (by with_reducible assumption))))) (hl16.up (by (repeat (first | with_reducible exact Below.refl _ _ | with_reducible assumption | with_reducible refine up_alloc ?_ _ | with_reducible refine up_drew ?_ | with_reducible refine up_drewN ?_ _ | (with_reducible refine up_set ?_ ?hset _; case hset => first | (simp; done) | (simp; omega) | omega) | with_reducible refine up_trans ?_ (by with_reducible assumption))))) (show Below w.heap.size w _ from (by (repeat (first | with_reducible exact Below.refl _ _ | with_reducible assumption | with_reducible refine up_alloc ?_ _ | with_reducible refine up_drew ?_ | with_reducible refine up_drewN ?_ _ | (with_reducible refine up_set ?_ ?hset _; case hset => first | (simp; done) | (simp; omega) | omega) | with_reducible refine up_trans ?_ (by with_reducible assumption))))).size (by omega) (by omega) ?_; intro v8 w8 ho8 hb8 y0 y1; replace hb8 := (show Below w.heap.size w _ from (by (repeat (first | with_reducible exact Below.refl _ _ | with_reducible assumption | with_reducible refine up_alloc ?_ _ | with_reducible refine up_drew ?_ | with_reducible refine up_drewN ?_ _ | (with_reducible refine up_set ?_ ?hset _; case hset => first | (simp; done) | (simp; omega) | omega) | with_reducible refine up_trans ?_ (by with_reducible assumption))))).trans hb8; have s0 := up_keep hb8 z0; have s1 := up_keep hb8 z1)
      | (refine step_app_copy2 rfl (.tmp 167) (.tmp 168) rfl w.heap.size _ _ nl X1 Y1 rfl rfl (by first | exact OwnR.empty (by simp) _ _ | exact OwnR.emptyAt (by simp) (by simp) _ _ | exact (OwnR.empty (by simp) _ _).up (by (repeat (first | with_reducible exact Below.refl _ _ | with_reducible assumption | with_reducible refine up_alloc ?_ _ | with_reducible refine up_drew ?_ | with_reducible refine up_drewN ?_ _ | (with_reducible refine up_set ?_ ?hset _; case hset => first | (simp; done) | (simp; omega) | omega) | with_reducible refine up_trans ?_ (by with_reducible assumption))))) (hl16.up (by (repeat (first | with_reducible exact Below.refl _ _ | with_reducible assumption | with_reducible refine up_alloc ?_ _ | with_reducible refine up_drew ?_ | with_reducible refine up_drewN ?_ _ | (with_reducible refine up_set ?_ ?hset _; case hset => first | (simp; done) | (simp; omega) | omega) | with_reducible refine up_trans ?_ (by with_reducible assumption))))) (show Below w.heap.size w _ from (by (repeat (first | with_reducible exact Below.refl _ _ | with_reducible assumption | with_reducible refine up_alloc ?_ _ | with_reducible refine up_drew ?_ | with_reducible refine up_drewN ?_ _ | (with_reducible refine up_set ?_ ?hset _; case hset => first | (simp; done) | (simp; omega) | omega) | with_reducible refine up_trans ?_ (by with_reducible assumption))))).size (by omega) (by omega) ?_; intro v8 w8 ho8 hb8; replace hb8 := (show Below w.heap.size w _ from (by (repeat (first | with_reducible exact Below.refl _ _ | with_reducible assumption | with_reducible refine up_alloc ?_ _ | with_reducible refine up_drew ?_ | with_reducible refine up_drewN ?_ _ | (with_reducible refine up_set ?_ ?hset _; case hset => first | (simp; done) | (simp; omega) | omega) | with_reducible refine up_trans ?_ (by with_reducible assumption))))).trans hb8; have s0 := up_keep hb8 z0; have s1 := up_keep hb8 z1)
      | (refine step_app_spot2 rfl (.tmp 169) (.tmp 171) rfl w.heap.size _ nl (cat nl X1 (fun _ => mx)) (cat nl Y1 (fun _ => my)) rfl rfl HX.out HY.out (by first | assumption | simp [go_sem]) (by first | assumption | simp [go_sem]) (OwnR.up (OwnR.cong ho8 cat_old cat_old) (by first | exact Below.refl _ _ | exact below_alloc _ _)) (show Below w.heap.size w _ from (by (repeat (first | with_reducible exact Below.refl _ _ | with_reducible assumption | with_reducible refine up_alloc ?_ _ | with_reducible refine up_drew ?_ | with_reducible refine up_drewN ?_ _ | (with_reducible refine up_set ?_ ?hset _; case hset => first | (simp; done) | (simp; omega) | omega) | with_reducible refine up_trans ?_ (by with_reducible assumption))))).size (by omega) ?_; intro v9 w9 ho9 hb9 _ _; replace hb9 := (show Below w.heap.size w _ from (by (repeat (first | with_reducible exact Below.refl _ _ | with_reducible assumption | with_reducible refine up_alloc ?_ _ | with_reducible refine up_drew ?_ | with_reducible refine up_drewN ?_ _ | (with_reducible refine up_set ?_ ?hset _; case hset => first | (simp; done) | (simp; omega) | omega) | with_reducible refine up_trans ?_ (by with_reducible assumption))))).trans hb9; have s2 := up_keep hb9 z0; have s3 := up_keep hb9 z1; obtain ⟨A9, c9, rfl, _, _⟩ := ho9.shape)
      | fail)
  all_goals (go_wp2_with fail; exact hQ _ _ _ _ _ _ _ _ ho9 hb9)
end Go.Proofs.Ytljbcfgecbonnaa
