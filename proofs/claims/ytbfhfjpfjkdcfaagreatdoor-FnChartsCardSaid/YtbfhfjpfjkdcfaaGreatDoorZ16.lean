/-
  FnCharts: for all arguments the law returns true, and its arguments read afterwards as before. No condition.
-/
import Derived.Test.YtbfhfjpfjkdcfaaGreatDoorRows
import Derived.BigQuiet
import Derived.RegionTactic
import Derived.ChangeAlike
import Derived.Deep.RegionHeld3
import Derived.Deep.CutRange
import Derived.Deep.DeepCutAuto
import Derived.Handed
import Derived.LaidLaws
import Derived.Lib.LaidTab
import Derived.Stop.LaidErr
import Derived.HandedShaped
import Derived.Shelf.Vars
import Derived.Lay
import Derived.Test.YtbfhfjpfjkdcfaaGreatDoorTie
import Derived.Test.YtbfhfjpfjkdcfaaGreatDoorCards
import Derived.PinnedBridge
import Derived.Test.YtbfhfjpfjkdcfaaGreatDoorZ15
namespace Go.Proofs.YtbfhfjpfjkdcfaaGreatDoor
open Go.RowKit Go.ChangeShapes Go.WideShapes Go.Sort Go.Proofs

theorem specR_len (l : List UInt8) : ((specR l).getD []).length ≤ 12 := by
  cases h : specR l with
  | none => simp
  | some o =>
    unfold specR at h
    split at h
    · cases h
    · split at h
      · cases h
      · split at h
        · rename_i hc
          obtain rfl := Option.some.inj h
          exact (chartB_iff.1 hc.1).1.2
        · cases h
set_option maxRecDepth 100000 in
set_option maxHeartbeats 16000000 in
theorem fnCharts_walk (v u : Value) (n m : Nat) (w : World) (hv : Bytes w v n) (hu : Bytes w u m) (hn : n ≤ 9223372036854775807) (hm : m ≤ 9223372036854775807) (ht : TabW w) (hmx : MaxW w) :
    Calls Tryz.prog 3 #[v, u] w (Ans w (.bool true)) := by
  have HV := Lib.hid hv
  have HU := Lib.hid hu
  have HT := Lib.hid ht
  have HMX := Lib.hid hmx
  clear ht hmx
  obtain ⟨Av, cv, rfl, _, _⟩ := hv
  obtain ⟨Au, cu, rfl, _, _⟩ := hu
  have HB := Lib.hid (fun W => big_g Av Au n cv m cu W hn hm)
  go_enter Tryz.func3, Tryz.ntmps3
  go_wp2_with fail
  refine (HB.out _).mono ?_
  rintro e wz ⟨q, rfl, _, rfl⟩
  clear HB
  cases q with
  | true =>
    go_wp2_with fail
    go_ret
    exact ⟨rfl, Below.refl _ _⟩
  | false =>
    go_wp2_with fail
    refine (drawChartText_g _ n _ HV.out hn).mono ?_
    rintro e w1 ⟨tl, nl, X, Y, rfl, hl, hnl, hb_0⟩
    have hW_1 : Below wz.heap.size wz w1 := hb_0
    clear hb_0
    obtain ⟨Al, cl, rfl, hlc, _⟩ := id hl
    obtain ⟨q, hq⟩ : ∃ q, chartB nl X Y = q := ⟨_, rfl⟩
    have hT1 := HT.out.up hW_1
    have HTi := Lib.hid (implChartText_s (.slice Al nl cl) nl X Y w1 hl (by omega) hT1)
    have HTs := Lib.hid (fun W (hW : Below w1.heap.size w1 W) => specChartText_s (.slice Al nl cl) nl X Y W (hl.up hW) (by omega))
    have HMi := Lib.hid (fun W (hW : Below w1.heap.size w1 W) => iMirror_any (.slice Al nl cl) nl X Y (by omega) W (hl.up hW))
    have HMs := Lib.hid (fun W (hW : Below w1.heap.size w1 W) => sMirror_any (.slice Al nl cl) nl X Y (by omega) W (hl.up hW))
    have HOi := Lib.hid (fun W (hW : Below w1.heap.size w1 W) => iOrder_any (.slice Al nl cl) nl X Y W (hl.up hW) (by omega))
    have HOs := Lib.hid (fun W (hW : Below w1.heap.size w1 W) => sOrder_any (.slice Al nl cl) nl X Y W (hl.up hW) (by omega))
    have HCi := Lib.hid (fun W (hW : Below w1.heap.size w1 W) => iClosestPair_g (.slice Al nl cl) nl X Y W (hl.up hW) (by omega))
    have HCs := Lib.hid (fun W (hW : Below w1.heap.size w1 W) => sClosestPair_g (.slice Al nl cl) nl X Y W (hl.up hW) (by omega))
    have HLi := Lib.hid (fun W (hW : Below w1.heap.size w1 W) => iLeastSquare_g (.slice Al nl cl) nl X Y W (hl.up hW) (by omega))
    have HLs := Lib.hid (fun W (hW : Below w1.heap.size w1 W) => sLeastSquare_g (.slice Al nl cl) nl X Y W (hl.up hW) (by omega))
    have HIs := Lib.hid (fun W (hW : Below w1.heap.size w1 W) => isChart_g (.slice Al nl cl) nl X Y W (hl.up hW) (by omega))
    obtain ⟨i1, k1, z0, r, e1, e2, hrq, hfr⟩ := cl_split nl X Y
    have HQ := Lib.hid hq
    have e2' := e2
    rw [hq] at HTi HTs HMi HMs HOi HOs HIs hrq
    rw [e1] at HCi HCs
    rw [e2] at HLi HLs
    obtain ⟨S, hS⟩ : ∃ S, bS (if q = true then txL X Y nl else []) = S := ⟨_, rfl⟩
    rw [hS] at HTi HTs
    have HS := Lib.hid (show q = true → bS (txL X Y nl) = S by intro h; rw [if_pos h] at hS; exact hS)
    obtain ⟨z, hz⟩ : ∃ z, sel q nl = z := ⟨_, rfl⟩
    rw [hz] at HMi HMs
    have HZ := Lib.hid (show q = true → z = nl by intro h; rw [h] at hz; exact hz.symm)
    have hzl : z ≤ 13 := by rw [← hz]; have := sel_le q nl; omega
    obtain ⟨mo, hmo⟩ : ∃ z, ordN nl q = z := ⟨_, rfl⟩
    rw [hmo] at HOi HOs
    have HM := Lib.hid (show q = true → mo = nl by intro h; rw [h] at hmo; exact hmo.symm)
    have hml : mo ≤ 13 := by rw [← hmo]; unfold ordN; split <;> omega
    have HLM := Lib.hid (show ∀ W t, r = true → Spots W t z (fun i => 1280 - X i) Y → Calls Tryz.prog 14 #[t] W (Ans W (.tuple #[.int .i64 z0, .bool true])) by
      intro W t h1 h2
      have h3 : q = true := by rw [hrq] at h1; simp at h1; exact h1.1
      have h4 := HZ.out h3
      subst h4
      have h5 := iLeastSquare_g t z _ Y W h2 (by omega)
      rw [mir_ls (by rw [hq]; exact h3), e2'] at h5
      rw [h1] at h5
      exact h5)
    have HVV := Lib.hid (show r = true → nl ≤ 12 ∧ ∀ i, i < nl → spotB (X i) (Y i) = true by
      intro h1
      have h3 : q = true := by rw [hrq] at h1; simp at h1; exact h1.1
      have h4 := chartB_iff.1 (by rw [hq]; exact h3)
      exact ⟨h4.1.2, h4.2.1⟩)
    have HFR := Lib.hid hfr
    have HRQ := Lib.hid hrq
    have HL := Lib.hid hl
    clear hl hT1 hq e1 e2 e2' hS hz hmo hfr hrq HT HV
    have hb_1 := Below.refl w1.heap.size w1
    go_wp2_with fail
    refine (HTi.out).mono ?_
    rintro e w2 ⟨rfl, hc⟩
    have hb_2 := up_trans hb_1 hc
    clear hc
    clear HTi
    go_wp2_with fail
    refine (HTs.out _ hb_2).mono ?_
    rintro e w3 ⟨rfl, hc⟩
    have hb_3 := up_trans hb_2 hc
    clear hc
    clear HTs
    as_aux_lemma =>
    go_wp2_with fail
    refine (HMi.out _ hb_3).mono ?_
    rintro e w4 ⟨tm, rfl, hm4, hc⟩
    have hb_4 := up_trans hb_3 hc
    have HMT := Lib.hid hm4.spots
    clear hc hm4 HMi
    go_wp2_with fail
    refine (HMs.out _ hb_4).mono ?_
    rintro e w5 ⟨tr, rfl, hm5, hc⟩
    have hb_5 := up_trans hb_4 hc
    have hb45 := hc
    have HMR := Lib.hid hm5.spots
    clear hc hm5 HMs
    as_aux_lemma =>
    go_wp2_with fail
    refine (HOi.out _ hb_5).mono ?_
    rintro e w6 ⟨tx, rfl, hm6, hc⟩
    have hb_6 := up_trans hb_5 hc
    have hb56 := hc
    have HTX := Lib.hid hm6.ints
    clear hc hm6 HOi
    go_wp2_with fail
    refine (HOs.out _ hb_6).mono ?_
    rintro e w7 ⟨tp, rfl, hm7, hc⟩
    have hb_7 := up_trans hb_6 hc
    have hb67 := hc
    have HTP := Lib.hid hm7.ints
    clear hc hm7 HOs
    obtain ⟨Ao, co, rfl, _, _⟩ := id HTP.out
    as_aux_lemma =>
    go_wp2_with fail
    refine (HCi.out _ hb_7).mono ?_
    rintro e w8 ⟨rfl, hc⟩
    have hb_8 := up_trans hb_7 hc
    have hb78 := hc
    clear hc HCi
    go_wp2_with fail
    refine (HCs.out _ hb_8).mono ?_
    rintro e w9 ⟨rfl, hc⟩
    have hb_9 := up_trans hb_8 hc
    have hb79 := up_trans hb78 hc
    clear hc HCs
    as_aux_lemma =>
    go_wp2_with fail
    refine (HLi.out _ hb_9).mono ?_
    rintro e w10 ⟨rfl, hc⟩
    have hb_10 := up_trans hb_9 hc
    have hb710 := up_trans hb79 hc
    clear hc HLi
    go_wp2_with fail
    refine (HLs.out _ hb_10).mono ?_
    rintro e w11 ⟨rfl, hc⟩
    have hb_11 := up_trans hb_10 hc
    have hb711 := up_trans hb710 hc
    clear hc HLs
    as_aux_lemma =>
    go_upto_region 14 with fail
    have hb6b := up_trans hb67 hb711
    have hb5b := up_trans hb56 hb6b
    have hb4b := up_trans hb45 hb5b
    refine ch_r14 q r nl cl z mo Al S i1 k1 z0 tm tr tx (.slice Ao mo co) _ _ _ w11 _ _ _ _ _ _ _ _ _ _ _ _ _ _ _ _ _ _ _ _ _ _ _ _ _ _ _ _ _ _ _ _ _ _ _ _ _ _ _ _ _ _ _ _ _ _ _ _ _ _ _ _ _ _ _ _ _ _ _ _ _ _ _ _ _ _ _ _ _ _ _ _ _ _ _ _ _ _ _ _ _ _ _ _ _ _ _ _ _ _ _ _ _ _ _ _ _ _ _ _ _ _ _ _ _ _ _ _ _ _ _ _ _ _ _ _ _ _ _ _ _ _ _ _ _ _ _ _ _ _ _ _ _ _ _ _ _ _ _ _ _ _ _ _ _ _ _ _ _ _ _ _ _ _ _ _ _ _ _ _ _ _ _ _ _ _ _ _ _ _ _ _ _ _ _ _ _ _ _ _ _ _ _ _ _ _ _ _ _ _ _ _ _ _ _ _ _ _ _ _ _ _ _ _ _ _ _ _ _ _ _ _ _ _ _ _ _ _ _ _ _ _ _ _ _ _ _ _ _ _ _ _ _ _ _ _ _ _ _ _ _ _ _ _ _ _ _ _ _ _ _ _ _ _ _ _ _ _ _ _ _ _ _ _ _ _ _ _ _ _ _ _ _ _ _ _ _ _ _ _ _ _ _ _ _ _ _ _ _ _ _ _ _ _ _ _ _ _ _ _ _ _ _ _ _ _ _ _ _ _ _ _ _ _ _ _ _ _ _ _ _ _ _ _ _ _ _ _ _ _ _ _ _ _ _ _ _ _ _ _ _ hzl hml (HMT.out.up hb4b) (HMR.out.up hb5b) (HTX.out.up hb6b) (HTP.out.up hb711) (Lib.hid (fun W hW => HIs.out W (up_trans hb_11 hW))) HRQ.out ?_
    rintro w12 u105 u106 u107 u108 u109 u110 u111 u112 u113 u114 u115 u116 u117 u118 u119 u120 u121 u122 u123 u124 u125 u126 u127 u128 u129 u130 u131 u132 u133 u134 u135 u136 u137 u138 u139 u140 u141 u142 u143 u144 u145 u146 u147 u148 u149 u150 u151 u152 u153 u154 u155 u156 u157 u158 u159 u160 u161 u162 u163 u164 u165 u166 u167 u168 u169 u170 u171 u172 u173 u174 u175 u176 u177 u178 u179 u180 u181 u182 u183 u184 u185 u186 u187 u188 u189 hc
    have hb_12 := up_trans hb_11 hc
    have hb712 := up_trans hb711 hc
    have hb4c := up_trans hb4b hc
    clear hc HIs HMR HTX hb5b hb6b
    as_aux_lemma =>
    go_upto_if 191 with fail
    refine ch_if191 q nl mo z cl co Al Ao S tm X Y w12 _ _ _ _ _ _ _ _ _ _ _ _ _ _ _ _ _ _ _ _ _ _ _ _ _ _ _ _ _ _ _ _ _ _ _ _ _ _ _ _ _ _ _ _ _ _ _ _ _ _ _ _ _ _ _ _ _ _ _ _ _ _ _ _ _ _ _ _ _ _ _ _ _ _ _ _ _ _ _ _ _ _ _ _ _ _ _ _ _ _ _ _ _ _ _ _ _ _ _ _ _ _ _ _ _ _ _ _ _ _ _ _ _ _ _ _ _ _ _ _ _ _ _ _ _ _ _ _ _ _ _ _ _ _ _ _ _ _ _ _ _ _ _ _ _ _ _ _ _ _ _ _ _ _ _ _ _ _ _ _ _ _ _ _ _ _ _ _ _ _ _ _ _ _ _ _ _ _ _ _ _ _ _ _ _ _ _ _ _ _ _ _ _ _ _ _ _ _ _ _ _ _ _ _ _ _ _ _ _ _ _ _ _ _ _ _ _ _ _ _ _ _ _ _ _ _ _ _ _ _ _ _ _ _ _ _ _ _ _ _ _ _ _ _ _ _ _ _ _ _ _ _ _ _ _ _ _ _ _ _ _ _ _ _ _ _ _ _ _ _ _ _ _ _ _ _ _ _ _ _ _ _ _ _ _ _ _ _ _ _ _ _ _ _ _ _ _ _ _ _ _ _ _ _ _ _ _ _ _ _ _ _ _ _ _ _ _ _ _ _ _ _ _ _ _ _ _ _ _ _ _ _ _ _ _ _ _ _ _ _ _ _ _ _ _ _ _ _ _ _ _ _ _ _ _ _ _ _ (HL.out.up hb_12) (HMT.out.up hb4c) (HTP.out.up hb712) HQ HZ HM HS (HMX.out.up (up_trans hW_1 hb_12)) ?_
    rintro w13 u4 u28 u29 u30 u31 u32 u33 u34 u192 u193 u194 u195 u196 u197 u198 u199 u200 u201 u202 u203 u204 u205 u206 u207 u208 u209 u210 u211 u212 u213 u214 u215 u216 u217 u218 u219 u220 u221 u222 u223 u224 u225 u226 u227 u228 u229 u230 u231 u232 u233 u234 u235 u236 u237 u238 u239 u240 u241 u242 u243 u244 u245 u246 u247 u248 u249 u250 u251 u252 u253 u254 u255 u256 u257 u258 u259 u260 u261 u262 u263 u264 u265 u266 hc
    have hb_13 := up_trans hb_12 hc
    have hb4d := up_trans hb4c hc
    clear hc HTP HM HS HQ HZ
    as_aux_lemma =>
    go_upto_if 267 with fail
    refine ch_if267 r nl cl Al tm i1 k1 z0 X Y w13 _ _ _ _ _ _ _ _ _ _ _ _ _ _ _ _ _ _ _ _ _ _ _ _ _ _ _ _ _ _ _ _ _ _ _ _ _ _ _ _ _ _ _ _ _ _ _ _ _ _ _ _ _ _ _ _ _ _ _ _ _ _ _ _ _ _ _ _ _ _ _ _ _ _ _ _ _ _ _ _ _ _ _ _ _ _ _ _ _ _ _ _ _ _ _ _ _ _ _ _ _ _ _ _ _ _ _ _ _ _ _ _ _ _ _ _ _ _ _ _ _ _ _ _ _ _ _ _ _ _ _ _ _ _ _ _ _ _ _ _ _ _ _ _ _ _ _ _ _ _ _ _ _ _ _ _ _ _ _ _ _ _ _ _ _ _ _ _ _ _ _ _ _ _ _ _ _ _ _ _ _ _ _ _ _ _ _ _ _ _ _ _ _ _ _ _ _ _ _ _ _ _ _ _ _ _ _ _ _ _ _ _ _ _ _ _ _ _ _ _ _ _ _ _ _ _ _ _ _ _ _ _ _ _ _ _ _ _ _ _ _ _ _ _ _ _ _ _ _ _ _ _ _ _ _ _ _ _ _ _ _ _ _ _ _ _ _ _ _ _ _ _ _ _ _ _ _ _ _ _ _ _ _ _ _ _ _ _ _ _ _ _ _ _ _ _ _ _ _ _ _ _ _ _ _ _ _ _ _ _ _ _ _ _ _ _ _ _ _ _ _ _ _ _ _ _ _ _ _ _ _ _ _ _ _ _ _ _ _ _ _ _ _ _ _ _ _ _ _ _ _ _ _ _ _ _ _ _ (HL.out.up hb_13) HFR HVV (Lib.hid (fun h => HLM.out w13 tm h (HMT.out.up hb4d))) ?_
    rintro w14 u4 u35 u36 u37 u38 u39 u40 u41 u42 u268 u269 u270 u271 u272 u273 u274 u275 u276 u277 u278 u279 u280 u281 u282 u283 u284 u285 u286 u287 u288 u289 u290 u291 u292 u293 u294 u295 u296 u297 u298 u299 u300 u301 u302 u303 u304 u305 u306 u307 u308 u309 u310 u311 u312 u313 u314 u315 u316 u317 u318 u319 u320 u321 u322 u323 u324 u325 u326 u327 u328 u329 u330 u331 u332 u333 u334 u335 u336 u337 u338 u339 u340 u341 u342 hc
    have hW_14 := up_trans hW_1 (up_trans hb_13 hc)
    clear hc HL HFR HVV HLM HMT HRQ
    as_aux_lemma =>
    go_wp2_with fail
    refine (drawParseChart_g _ m _ (HU.out.up hW_14) hm).mono ?_
    rintro e w15 ⟨t, rfl, htl, hc⟩
    have hW_15 := up_trans hW_14 hc
    clear hc
    have HPi := Lib.hid (parseChart_s t w15 (by omega) (HMX.out.up hW_15))
    have HPs := Lib.hid (fun W => specParseChart_s t W (by omega))
    have hk := specR_len t
    rw [← specR_implR t] at HPi
    unfold AnsP at HPi HPs
    generalize (specR t).isSome = qp at *
    generalize xO ((specR t).getD []) = PX at *
    generalize yO ((specR t).getD []) = PY at *
    generalize ((specR t).getD []).length = mp at *
    clear htl
    generalize bS t = st at *
    go_wp2_with fail
    refine (HPi.out).mono ?_
    rintro e w16 ⟨ta, rfl, ha, hc⟩
    have hW_16 := up_trans hW_15 hc
    have HA := Lib.hid ha.spots
    clear hc ha HPi
    go_wp2_with fail
    refine (HPs.out _).mono ?_
    rintro e w17 ⟨tb, rfl, hb, hc⟩
    have hW_17 := up_trans hW_16 hc
    have HPP := Lib.hid (pSame_g ta tb mp PX PY w17 (HA.out.up hc) hb.spots (by omega))
    clear hc hb HPs HA
    have eqq : (qp == qp) = true := by simp
    go_wp2_with fail
    refine (HPP.out).mono ?_
    rintro e w18 ⟨rfl, hc⟩
    go_wp2_with fail
    go_ret
    exact ⟨rfl, up_trans hW_17 hc⟩
end Go.Proofs.YtbfhfjpfjkdcfaaGreatDoor
namespace Go.Proofs.YtbfhfjpfjkdcfaaGreatDoor
open Go.RowKit Go.ChangeShapes Go.WideShapes Go.Sort

/-- What a law's walk shows, where a table is listed. -/
def LawWalkX (P : Program) (X : World → Prop) (f : FuncId) (fn : Func) : Prop :=
  ∀ (H : Type) (enc : TypeId × Value → H) (W : World) (base : Nat) (args : Array Value) (ds : List (DataW H)) (ps : List MemPlace),
    (∀ (j : Nat) t v, fn.params[j]? = some t → args[j]? = some v → Value.okWide P W .any base t v) →
    DataW.TrodAll enc P W 0 (fun _ => true) true fn.params.toList args.toList ds ps → X W → Calls P f args W (Ans W (.bool true))
theorem liftedX_of {C : Checked} {X : World → Prop} (hX : ∀ w w' : World, w.heap = w'.heap → X w → X w') {f : FuncId} {fn : Func} {s : ChangeSpec} {tb : TypeId} (own : ownKnob C.prog.godebug = none) (laid : laidOutB C.prog = true)
    (hread : fn.params.toList.all (fun t => C.prog.readableRec t && decide (t < C.prog.types.size)) = true) (hinit : C.prog.inits.idxOf? f = none) (hfn : C.prog.funcs[f]? = some fn)
    (hres : fn.resultTypes = #[tb]) (htb : C.prog.underlying tb = some .bool) (hv : s.vars = [])
    (hs : ∀ (H : Type) (ds : List (DataW H)), ds.length = fn.params.toList.length → s.fn H ds = { results := [.lit (.bool true)], args := ds })
    (walk : LawWalkX C.prog X f fn) (os : Os) (started : os.Started) (H : Type) (enc : TypeId × Value → H)
    (witness : ∃ (w : World) (tape : Tape) (i : Input), w.os = os ∧ (w.forCall tape i).Shaped C.prog ∧ i.vars = [] ∧ Input.okWide C.prog (w.forCall tape i) .any w.heap.size f i ∧
      ((s.pre enc C.prog fn [] false (w.forCall tape i).memory i.args ∧ X (w.forCall tape i).memory) ∧ sizedMet enc C.prog fn (OpenSpec.ofChange s) false (w.forCall tape i).memory i.args) ∧ ({} : Assume).holds C.prog (lone (Frame.enter C.prog f i.args .normal) [] (w.forCall tape i))) :
    ReturnsInHanded {} C os f .any (fun w args => (s.pre enc C.prog fn [] false w args ∧ X w) ∧ sizedMet enc C.prog fn (OpenSpec.ofChange s) false w args) (s.post enc C.prog fn false true false false) := by
  refine returnsInHanded_of_change_and (C := C) (X := fun w _ => X w) (fun w w' _ hh h => hX w w' hh h) own started hinit hfn witness ?_
  intro W base args ds gs before hval hW _ _ hL _
  have hW' := hW
  obtain ⟨p, q, hA, hV, rfl, hfz, hnd⟩ := hW
  rw [hv] at hV
  obtain ⟨rfl, rfl⟩ := trodVars_none hV
  have hlen := trodAll_len _ _ _ _ hA
  have hsp := hs H ds hlen
  refine (walk H enc W base args ds p hval hA hL).mono fun e W' ⟨he, hb⟩ => ?_
  have hlt : ∀ x ∈ p, x.block < W.heap.size := fun x hx => hW'.lt x (by simpa using hx)
  refine ⟨_, he, post_of_below (pa := p) (pv := []) hW' ?_ ?_ ?_ rfl hb ?_⟩
  · intro b sp hd
    rw [hres, List.append_nil, hsp]
    exact trodAll_mk1 (shut_bool htb true)
  · intro sp hsp'
    rw [List.append_nil, hsp]
    refine trodAll_stays laid hb _ _ _ _ (fun t ht => ?_) hA hlt (fun x hx => hsp' x (by simpa using hx))
    have := List.all_eq_true.1 hread t ht
    simpa using this
  · intro sp _
    rw [List.append_nil, hsp, hv]
    exact rfl
  · exact ok_one hres rfl (okWide_bool_mk htb true)
/-- A datum's cells. -/
def cellsOfData : DataW Unit → Array Value
  | .agg l => (l.map fun d => match d with
    | .lit (.int k z) => Value.int k z
    | _ => Value.bool false).toArray
  | _ => #[]
def layCells (cs : Array Value) : Obj → Obj
  | .cells _ t fr => .cells cs t fr
  | o => o
end Go.Proofs.YtbfhfjpfjkdcfaaGreatDoor
namespace Go.Proofs.YtbfhfjpfjkdcfaaGreatDoor
open Go.RowKit Go.ChangeShapes Go.WideShapes Go.Sort

/-- What a law's walk shows, where a table is listed; the world has the program's shape. -/
def LawWalkXS (P : Program) (X : World → Prop) (f : FuncId) (fn : Func) : Prop :=
  ∀ (H : Type) (enc : TypeId × Value → H) (W : World) (base : Nat) (args : Array Value) (ds : List (DataW H)) (ps : List MemPlace),
    (∀ (j : Nat) t v, fn.params[j]? = some t → args[j]? = some v → Value.okWide P W .any base t v) →
    DataW.TrodAll enc P W 0 (fun _ => true) true fn.params.toList args.toList ds ps → X W → W.ShapedOpen P → Calls P f args W (Ans W (.bool true))
theorem liftedXS_of {C : Checked} {X : World → Prop} (hX : ∀ w w' : World, w.heap = w'.heap → X w → X w') {f : FuncId} {fn : Func} {s : ChangeSpec} {tb : TypeId} (own : ownKnob C.prog.godebug = none) (laid : laidOutB C.prog = true)
    (hread : fn.params.toList.all (fun t => C.prog.readableRec t && decide (t < C.prog.types.size)) = true) (hinit : C.prog.inits.idxOf? f = none) (hfn : C.prog.funcs[f]? = some fn)
    (hres : fn.resultTypes = #[tb]) (htb : C.prog.underlying tb = some .bool) (hv : s.vars = [])
    (hs : ∀ (H : Type) (ds : List (DataW H)), ds.length = fn.params.toList.length → s.fn H ds = { results := [.lit (.bool true)], args := ds })
    (walk : LawWalkXS C.prog X f fn) (os : Os) (started : os.Started) (H : Type) (enc : TypeId × Value → H)
    (witness : ∃ (w : World) (tape : Tape) (i : Input), w.os = os ∧ (w.forCall tape i).Shaped C.prog ∧ i.vars = [] ∧ Input.okWide C.prog (w.forCall tape i) .any w.heap.size f i ∧
      ((s.pre enc C.prog fn [] false (w.forCall tape i).memory i.args ∧ X (w.forCall tape i).memory) ∧ sizedMet enc C.prog fn (OpenSpec.ofChange s) false (w.forCall tape i).memory i.args) ∧ ({} : Assume).holds C.prog (lone (Frame.enter C.prog f i.args .normal) [] (w.forCall tape i))) :
    ReturnsInHanded {} C os f .any (fun w args => (s.pre enc C.prog fn [] false w args ∧ X w) ∧ sizedMet enc C.prog fn (OpenSpec.ofChange s) false w args) (s.post enc C.prog fn false true false false) := by
  refine returnsInHanded_of_calls own started hinit witness ?_
  intro w tape i _ hsh _ hok hpre _
  obtain ⟨_, _, _, fn', hfn', _, _, _, _, hval⟩ := hok
  have e : fn' = fn := Option.some.inj (hfn'.symm.trans hfn)
  subst e
  obtain ⟨⟨⟨ds, gs, before, hw, _⟩, hx⟩, _⟩ := hpre
  have hW := DataW.Whole.of_heap (w' := w.forCall tape i) (by rfl) hw
  have hW' := hW
  obtain ⟨p, q, hA, hV, rfl, hfz, hnd⟩ := hW
  rw [hv] at hV
  obtain ⟨rfl, rfl⟩ := trodVars_none hV
  have hlen := trodAll_len _ _ _ _ hA
  have hsp := hs H ds hlen
  refine (walk H enc _ _ _ ds p hval hA (hX _ _ (by rfl) hx) hsh).mono fun e W' ⟨he, hb⟩ => ?_
  subst he
  have hlt : ∀ x ∈ p, x.block < (w.forCall tape i).heap.size := fun x hx => hW'.lt x (by simpa using hx)
  refine ChangeSpec.post_blind (post_of_below (pa := p) (pv := []) hW' ?_ ?_ ?_ rfl hb ?_)
  · intro b sp hd
    rw [hres, List.append_nil, hsp]
    exact trodAll_mk1 (shut_bool htb true)
  · intro sp hsp'
    rw [List.append_nil, hsp]
    refine trodAll_stays laid hb _ _ _ _ (fun t ht => ?_) hA hlt (fun x hx => hsp' x (by simpa using hx))
    have := List.all_eq_true.1 hread t ht
    simpa using this
  · intro sp _
    rw [List.append_nil, hsp, hv]
    exact rfl
  · exact ok_one hres rfl (okWide_bool_mk htb true)
end Go.Proofs.YtbfhfjpfjkdcfaaGreatDoor
namespace Go.Proofs.YtbfhfjpfjkdcfaaGreatDoor
open Go.RowKit Go.ChangeShapes Go.WideShapes Go.Sort Go.Proofs

set_option maxRecDepth 100000 in
set_option maxHeartbeats 4000000 in
theorem fnCharts_law : LawWalkXS Tryz.prog (fun W => laidMet Tryz.prog Rows.fnChartsRow.laid W) 3 Tryz.f3 := by
  intro H enc W base args ds ps hval hA hL hsh
  rw [Tryz.params3] at hval hA
  obtain ⟨v0, v1, d0, d1, p, q, rfl, rfl, rfl, h0, h1⟩ := trodAll_two hA
  obtain ⟨n, hs, hn⟩ := open_bytes (hval 0 _ v0 rfl rfl) h0
  obtain ⟨m, hu, hm⟩ := open_bytes (hval 1 _ v1 rfl rfl) h1
  have hM : MaxW W := cell_of_shapedOpen_int (P := Tryz.prog) (g := 0) (t := 3) (zero := #[.int .i64 0]) hsh (of_decide_eq_true (by kernel_rfl)) (by kernel_rfl) rfl (by kernel_rfl) (by kernel_rfl) Tryz.underlying3
  have hT : TabW W := Lib.tabIs_of_head (P := Tryz.prog) (t := 136) (e := 64) (n := 20) (g := 3) (by kernel_rfl) (by kernel_rfl) Tryz.underlying136 Tryz.underlying64 (by kernel_rfl) (by kernel_rfl) hL.tail.tail
  exact fnCharts_walk v0 v1 n m W hs hu hn hm hT hM
set_option maxRecDepth 100000 in
set_option maxHeartbeats 4000000 in
theorem fnCharts_wit (os : Os) (H : Type) (enc : TypeId × Value → H) : ∃ (w : World) (tape : Tape) (i : Input), w.os = os ∧ (w.forCall tape i).Shaped Tryz.checked.prog ∧ i.vars = [] ∧ Input.okWide Tryz.checked.prog (w.forCall tape i) .any w.heap.size 3 i ∧
      ((Rows.fnChartsSpec.pre enc Tryz.checked.prog Tryz.f3 [] false (w.forCall tape i).memory i.args ∧ laidMet Tryz.prog Rows.fnChartsRow.laid (w.forCall tape i).memory) ∧ sizedMet enc Tryz.checked.prog Tryz.f3 (OpenSpec.ofChange Rows.fnChartsSpec) false (w.forCall tape i).memory i.args) ∧ ({} : Assume).holds Tryz.checked.prog (lone (Frame.enter Tryz.checked.prog 3 i.args .normal) [] (w.forCall tape i)) :=
  ChangeSpec.witness_shaped (enc := enc) (C := Tryz.checked) (os := os) (X := fun w _ => laidMet Tryz.prog Rows.fnChartsRow.laid w) false (World.laidAll Tryz.prog os Rows.fnChartsRow.laid) #[.slice none 0 0, .slice none 0 0] 8 (World.laidAll_os _ _ _)
      (World.shaped_of_ZipB (by kernel_rfl) (by kernel_rfl)) (by kernel_rfl) (by kernel_rfl) (by kernel_rfl) (laidMet_laidAll _ (by kernel_rfl) (by kernel_rfl))
set_option maxRecDepth 100000 in
set_option maxHeartbeats 4000000 in
theorem fnCharts_row (os : Os) (started : os.Started) (H : Type) (enc : TypeId × Value → H) :
    ReturnsInHanded {} Tryz.checked os 3 .any (fun w args => (Rows.fnChartsSpec.pre enc Tryz.prog Tryz.f3 [] false w args ∧ laidMet Tryz.prog Rows.fnChartsRow.laid w) ∧ sizedMet enc Tryz.prog Tryz.f3 (OpenSpec.ofChange Rows.fnChartsSpec) false w args) (Rows.fnChartsSpec.post enc Tryz.checked.prog Tryz.f3 false true false false) :=
  liftedXS_of (C := Tryz.checked) (X := fun W => laidMet Tryz.prog Rows.fnChartsRow.laid W) (fun _ _ hh h => h.of_heap hh) (s := Rows.fnChartsSpec) (tb := 4) (by kernel_rfl) (by kernel_rfl) (by kernel_rfl) (by kernel_rfl) Tryz.func3 rfl Tryz.underlying4 rfl
      (fun H ds h => by
        have h2 : ds.length = 2 := by rw [Tryz.params3] at h; exact h
        match ds, h2 with
        | [_, _], _ => rfl)
      fnCharts_law os started H enc (fnCharts_wit os H enc)
set_option maxRecDepth 100000 in
set_option maxHeartbeats 4000000 in
theorem fnCharts_holds : Rows.FnChartsSaid :=
  OpenClaim.holds_of_wide 3 Tryz.f3 rfl rfl rfl rfl rfl rfl rfl ⟨rfl, rfl, rfl, rfl, rfl⟩ rfl rfl rfl rfl rfl (by kernel_rfl) Tryz.func3 (by kernel_rfl)
    (of_decide_eq_true (by kernel_rfl)) (by unfold Func.isWrapper; first | (rw [if_pos (by decide +kernel)]; kernel_rfl) | (rw [if_neg (by decide +kernel)]; exact ⟨rfl, rfl⟩))
    (fun os started H enc _ => fnCharts_row os started H enc)
set_option maxRecDepth 100000 in
set_option maxHeartbeats 4000000 in
theorem fnCharts_card : Rows.FnChartsCardSaid :=
  Claim7.holds_tied_plain_at .later [] [.data, .data, .data, .data, .pinned] true (true, "0c4c58f6d314724c0633a0a5d5715812ae12197d50747e96d4e644f0730ebc6e") false
    fnCharts_holds (fun _ h => by cases h) (by kernel_rfl) (fun _ h => by cases h) fnCharts_row_tie rfl ⟨rfl, rfl⟩ (by kernel_rfl) rfl
    (fun f fn hf hfn => by
      obtain rfl : f = 3 := Option.some.inj ((show Tryz.prog.funcNamed "loop.example/g00939/laws.FnCharts" = some 3 by kernel_rfl).symm.trans hf) |>.symm
      obtain rfl : fn = Tryz.f3 := (Option.some.inj (Tryz.func3.symm.trans hfn)).symm
      exact ⟨by kernel_rfl, fun j t ht => by
        rw [Tryz.params3] at ht
        have h3 : t = 22 := by
          rcases j with _ | _ | j
          · simpa using ht.symm
          · simpa using ht.symm
          · simp at ht
        subst h3
        exact (show Tryz.prog.wantsStandIn 22 = false by kernel_rfl)⟩)
    (by kernel_rfl)
#print axioms fnCharts_card
end Go.Proofs.YtbfhfjpfjkdcfaaGreatDoor
