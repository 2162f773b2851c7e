/-
  Pieces of FnForms.
-/
import Derived.Test.YtljbcfgecbonnaaRows
import Derived.Test.YtljbcfgecbonnaaBase
import Derived.Test.YtljbcfgecbonnaaSpot
import Derived.Test.YtljbcfgecbonnaaSlice
import Derived.Test.YtljbcfgecbonnaaTurned
import Derived.Test.YtljbcfgecbonnaaTrans
import Derived.BigQuiet
import Derived.Test.YtljbcfgecbonnaaCur
import Derived.Test.YtljbcfgecbonnaaDrawP
import Derived.Test.YtljbcfgecbonnaaOpen
import Derived.Test.YtljbcfgecbonnaaAppend
import Derived.Test.YtljbcfgecbonnaaAppendE
import Derived.Test.YtljbcfgecbonnaaForm
import Derived.Test.YtljbcfgecbonnaaSameForm
import Derived.Deep.LoopGhost
import Derived.Deep.Onto
import Derived.Deep.CutRange
import Derived.Deep.DeepCutAuto
import Derived.Deep.RegionHeld3
import Derived.Test.YtljbcfgecbonnaaDrawV
import Derived.Test.YtljbcfgecbonnaaDrawX
import Derived.Test.YtljbcfgecbonnaaDrawW
import Derived.Test.YtljbcfgecbonnaaDrawZ
import Derived.Test.YtljbcfgecbonnaaDrawJ
import Derived.Test.YtljbcfgecbonnaaBytes
import Derived.Test.YtljbcfgecbonnaaLawS
import Derived.Test.YtljbcfgecbonnaaDrawK
import Derived.Test.YtljbcfgecbonnaaQ
import Derived.Test.YtljbcfgecbonnaaPs
import Derived.Test.YtljbcfgecbonnaaLine
import Derived.Test.YtljbcfgecbonnaaLineS
import Derived.Test.YtljbcfgecbonnaaBlock
import Derived.Test.YtljbcfgecbonnaaWedge
import Derived.Test.YtljbcfgecbonnaaPoly
import Derived.Test.YtljbcfgecbonnaaTurn
import Derived.Test.YtljbcfgecbonnaaFoP
import Derived.Test.YtljbcfgecbonnaaFfV
import Derived.Test.YtljbcfgecbonnaaPiece
namespace Go.Proofs.Ytljbcfgecbonnaa
open Go.RowKit Go.ChangeShapes Go.WideShapes Go.Sort

set_option maxRecDepth 100000 in
set_option maxHeartbeats 2000000 in
theorem iSquareOf_any (x y u v : Int) (h : spotB x y = true) (h' : spotB u v = true) (w : World) :
    Calls Try.prog 55 #[.agg #[.int .i64 x, .int .i64 y], .agg #[.int .i64 u, .int .i64 v]] w (Ans w (.tuple #[.int .i64 (sq x y u v), .bool true])) := by
  go_enter Try.func55, Try.ntmps55
  go_wp2_with (first | (go_at_call 90; refine (from0 (isSpot_any _ _ _) (by first | exact hb0 | exact up_alloc hb0 _ | exact up_drew hb0 | exact up_drewN hb0 _ | exact Below.refl _ _)).mono ?_; rintro e w1 ⟨rfl, hb0⟩; obtain ⟨hc0, hf0⟩ := bcell hb0) | (go_at_call 121; refine (from0 (squareOf_any _ _ _ _ h h' _) (by first | exact hb0 | exact up_alloc hb0 _ | exact up_drew hb0 | exact up_drewN hb0 _ | exact Below.refl _ _)).mono ?_; rintro e w1 ⟨rfl, hb0⟩; obtain ⟨hc0, hf0⟩ := bcell hb0))
  go_ret2
  exact ⟨rfl, by (repeat (first | with_reducible exact Below.refl _ _ | with_reducible assumption | with_reducible refine up_alloc ?_ _ | with_reducible refine up_drew ?_ | with_reducible refine up_drewN ?_ _ | (with_reducible refine up_set ?_ ?hset _; case hset => first | (simp; done) | (simp; omega) | omega) | with_reducible refine up_trans ?_ (by with_reducible assumption)))⟩
set_option maxRecDepth 100000 in
set_option maxHeartbeats 4000000 in
theorem fo_r8 (ax ay bx bz p : Int) (q1 : Bool) (z1 : Nat) (tl : Value) (Ak : Option Addr) (ck B5 B6 : Nat) (w : World)
    (s0 s1 s2 s3 s4 s11 s12 s13 s14 s15 s16 s17 s18 s19 s20 s21 s22 s23 s24 s25 s26 s27 s28 s29 s30 s31 s32 s33 s34 s35 s36 s37 s38 s39 s40 s41 s42 s43 s44 s45 s46 s47 s48 s49 s50 s51 s52 s53 s54 s55 s56 s57 s58 s59 s60 s61 s62 s63 s64 s65 s66 s67 s68 s69 s70 s71 s72 s73 s74 s75 s76 s77 s78 s79 s80 s81 s82 s83 s84 s85 s86 s87 s88 s89 s90 s91 s92 s93 s94 s95 s96 s97 s98 s99 s100 s101 s102 s103 s104 s105 s106 s107 s108 s109 s110 s111 s112 s113 s114 s115 s116 s117 s118 s119 s120 s121 s122 s123 s124 s125 s126 s127 s128 s129 s130 s131 s132 s133 s134 s135 s136 s137 s138 s139 s140 s141 s142 s143 s144 s145 s146 s147 s148 s149 s150 s151 s152 s153 s154 s155 s156 s157 s158 s159 s160 s161 s162 s163 s164 s165 s166 s167 s168 s169 s170 s171 s172 s173 s174 s175 s176 s177 s178 s179 s180 s181 s182 s183 s184 s185 s186 s187 s188 s189 s190 s191 s192 s193 s194 s195 s196 s197 s198 s199 s200 s201 s202 s203 s204 s205 s206 s207 s208 s209 s210 s211 s212 s213 s214 s215 s216 s217 s218 s219 s220 s221 s222 s223 s224 s225 s226 s227 s228 s229 s230 s231 s232 s233 s234 s235 s236 s237 s238 s239 s240 s241 s242 s243 s244 s245 s246 s247 s248 s249 s250 s251 s252 s253 s254 s255 s256 s257 s258 s259 s260 s261 s262 s263 s264 s265 s266 s267 s268 s269 s270 s271 s272 s273 s274 s275 s276 s277 s278 s279 s280 s281 s282 s283 s284 s285 s286 s287 s288 s289 s290 s291 s292 s293 s294 s295 s296 s297 s298 s299 s300 s301 s302 s303 s304 s305 s306 s307 s308 s309 s310 s311 s312 s313 s314 s315 s316 s317 s318 s319 s320 s321 s322 s323 s324 s325 s326 s327 s328 s329 s330 s331 s332 s333 s334 s335 s336 s337 s338 s339 s340 s341 s342 s343 s344 s345 s346 s347 s348 s349 s350 s351 s352 s353 s354 s355 s356 s357 s358 s359 s360 s361 s362 s363 s364 s365 : Value) (Q0 : Exit → Act → World → Prop)
    (hl : Spots w tl z1 (lnX ax bx (lnC p)) (lnX ay bz (lnC p))) (hk : Spots w (.slice Ak z1 ck) z1 (lnX ax bx (lnC p)) (lnX ay bz (lnC p))) (b5 : Box2 w B5 ax ay) (b6 : Box2 w B6 bx bz) (HQ1 : Hid (lnB ax ay bx bz p = q1)) (HZ1 : Hid (q1 = true → z1 = p.toNat)) (hz12 : z1 ≤ 12)
    (hQ : ∀ (w' : World) (u83 u84 u85 u86 u87 u88 u89 u90 u91 u92 u93 u94 u95 u96 u97 u98 u99 u100 u101 u102 u103 u104 u105 u106 u107 u108 u109 u110 u111 u112 u113 : Value), Below w.heap.size w w' → Q0 .normal ⟨#[s0, s1, s2, s3, s4, (.pointer (some ⟨B5, 0, none⟩)), (.pointer (some ⟨B6, 0, none⟩)), (.int .i64 p), tl, (.bool q1), (.slice Ak z1 ck), s11, s12, s13, s14, s15, s16, s17, s18, s19, s20, s21, s22, s23, s24, s25, s26, s27, s28, s29, s30, s31, s32, s33, s34, s35, s36, s37, s38, s39, s40, s41, s42, s43, s44, s45, s46, s47, s48, s49, s50, s51, s52, s53, s54, s55, s56, s57, s58, s59, s60, s61, s62, s63, s64, s65, s66, s67, s68, s69, s70, s71, s72, s73, s74, s75, s76, s77, s78, s79, s80, s81, s82, u83, u84, u85, u86, u87, u88, u89, u90, u91, u92, u93, u94, u95, u96, u97, u98, u99, u100, u101, u102, u103, u104, u105, u106, u107, u108, u109, u110, u111, u112, u113, (.bool false), s115, s116, s117, s118, s119, s120, s121, s122, s123, s124, s125, s126, s127, s128, s129, s130, s131, s132, s133, s134, s135, s136, s137, s138, s139, s140, s141, s142, s143, s144, s145, s146, s147, s148, s149, s150, s151, s152, s153, s154, s155, s156, s157, s158, s159, s160, s161, s162, s163, s164, s165, s166, s167, s168, s169, s170, s171, s172, s173, s174, s175, s176, s177, s178, s179, s180, s181, s182, s183, s184, s185, s186, s187, s188, s189, s190, s191, s192, s193, s194, s195, s196, s197, s198, s199, s200, s201, s202, s203, s204, s205, s206, s207, s208, s209, s210, s211, s212, s213, s214, s215, s216, s217, s218, s219, s220, s221, s222, s223, s224, s225, s226, s227, s228, s229, s230, s231, s232, s233, s234, s235, s236, s237, s238, s239, s240, s241, s242, s243, s244, s245, s246, s247, s248, s249, s250, s251, s252, s253, s254, s255, s256, s257, s258, s259, s260, s261, s262, s263, s264, s265, s266, s267, s268, s269, s270, s271, s272, s273, s274, s275, s276, s277, s278, s279, s280, s281, s282, s283, s284, s285, s286, s287, s288, s289, s290, s291, s292, s293, s294, s295, s296, s297, s298, s299, s300, s301, s302, s303, s304, s305, s306, s307, s308, s309, s310, s311, s312, s313, s314, s315, s316, s317, s318, s319, s320, s321, s322, s323, s324, s325, s326, s327, s328, s329, s330, s331, s332, s333, s334, s335, s336, s337, s338, s339, s340, s341, s342, s343, s344, s345, s346, s347, s348, s349, s350, s351, s352, s353, s354, s355, s356, s357, s358, s359, s360, s361, s362, s363, s364, s365], []⟩ w') :
    Code.wp Try.prog ((Try.f5.body.bind (findRegion 8)).getD .skip) Q0 ⟨#[s0, s1, s2, s3, s4, (.pointer (some ⟨B5, 0, none⟩)), (.pointer (some ⟨B6, 0, none⟩)), (.int .i64 p), tl, (.bool q1), (.slice Ak z1 ck), s11, s12, s13, s14, s15, s16, s17, s18, s19, s20, s21, s22, s23, s24, s25, s26, s27, s28, s29, s30, s31, s32, s33, s34, s35, s36, s37, s38, s39, s40, s41, s42, s43, s44, s45, s46, s47, s48, s49, s50, s51, s52, s53, s54, s55, s56, s57, s58, s59, s60, s61, s62, s63, s64, s65, s66, s67, s68, s69, s70, s71, s72, s73, s74, s75, s76, s77, s78, s79, s80, s81, s82, s83, s84, s85, s86, s87, s88, s89, s90, s91, s92, s93, s94, s95, s96, s97, s98, s99, s100, s101, s102, s103, s104, s105, s106, s107, s108, s109, s110, s111, s112, s113, s114, s115, s116, s117, s118, s119, s120, s121, s122, s123, s124, s125, s126, s127, s128, s129, s130, s131, s132, s133, s134, s135, s136, s137, s138, s139, s140, s141, s142, s143, s144, s145, s146, s147, s148, s149, s150, s151, s152, s153, s154, s155, s156, s157, s158, s159, s160, s161, s162, s163, s164, s165, s166, s167, s168, s169, s170, s171, s172, s173, s174, s175, s176, s177, s178, s179, s180, s181, s182, s183, s184, s185, s186, s187, s188, s189, s190, s191, s192, s193, s194, s195, s196, s197, s198, s199, s200, s201, s202, s203, s204, s205, s206, s207, s208, s209, s210, s211, s212, s213, s214, s215, s216, s217, s218, s219, s220, s221, s222, s223, s224, s225, s226, s227, s228, s229, s230, s231, s232, s233, s234, s235, s236, s237, s238, s239, s240, s241, s242, s243, s244, s245, s246, s247, s248, s249, s250, s251, s252, s253, s254, s255, s256, s257, s258, s259, s260, s261, s262, s263, s264, s265, s266, s267, s268, s269, s270, s271, s272, s273, s274, s275, s276, s277, s278, s279, s280, s281, s282, s283, s284, s285, s286, s287, s288, s289, s290, s291, s292, s293, s294, s295, s296, s297, s298, s299, s300, s301, s302, s303, s304, s305, s306, s307, s308, s309, s310, s311, s312, s313, s314, s315, s316, s317, s318, s319, s320, s321, s322, s323, s324, s325, s326, s327, s328, s329, s330, s331, s332, s333, s334, s335, s336, s337, s338, s339, s340, s341, s342, s343, s344, s345, s346, s347, s348, s349, s350, s351, s352, s353, s354, s355, s356, s357, s358, s359, s360, s361, s362, s363, s364, s365], []⟩ w := by
  conv => arg 2; whnf
  try dsimp only
  cases q1 with
  | false =>
    refine wp_region_up (by kernel_rfl) (by kernel_rfl) ?_
    repeat (go_big_quiet_step (fail))
    refine wpQuiet_nil ?_
    intro w1 hb0
    obtain ⟨hc0, hf0⟩ := bcell hb0
    exact hQ _ _ _ _ _ _ _ _ _ _ _ _ _ _ _ _ _ _ _ _ _ _ _ _ _ _ _ _ _ _ _ _ hb0
  | true =>
    obtain ⟨⟨p1, p2⟩, hch, ⟨f0, f1⟩, hlast⟩ := ln_facts HQ1.out
    have hz := HZ1.out rfl
    obtain ⟨pN, rfl⟩ : ∃ pN : Nat, p = pN := ⟨p.toNat, by omega⟩
    simp only [Int.toNat_natCast] at hz hch
    subst hz
    have HCH := Lib.hid (fun W (hW : Below w.heap.size w W) => isChart_g tl z1 _ _ W (hl.up hW) (by omega))
    rw [hch] at HCH
    obtain ⟨Ak2, ck2, e2, _, hr2⟩ := hk
    injection e2 with e3 _ e4
    subst e3
    subst e4
    obtain ⟨bd, od, rfl, hR2⟩ := hr2 (by omega)
    have g0 := (hR2 0 (by omega)).1
    have g1 := (hR2 0 (by omega)).2
    rw [f0, Nat.zero_mul, Nat.add_zero] at g0
    rw [f1, Nat.zero_mul, Nat.add_zero] at g1
    have c0 := cell_regrown g0
    have c1 := cell_regrown g1
    have c2 := cell_regrown b5.c0
    have c3 := cell_regrown b5.c1
    have c4 := cell_regrown b6.c0
    have c5 := cell_regrown b6.c1
    have jp0 : 0 < z1 := by omega
    have ez1 : ((z1 : Int) != (z1 : Int)) = false := by simp
    clear g0 g1 hr2 hch HQ1 HZ1
    by_cases hp1 : 1 < z1
    · obtain ⟨e0, e1⟩ := hlast (by omega)
      obtain ⟨K, hK⟩ : ∃ K, ((z1 : Int) - 1).toNat = K := ⟨_, rfl⟩
      rw [hK] at e0 e1
      have hKz : K < z1 := by omega
      have g2 := (hR2 K hKz).1
      have g3 := (hR2 K hKz).2
      rw [e0] at g2
      rw [e1] at g3
      have c6 := cell_regrown g2
      have c7 := cell_regrown g3
      have jp1 : (z1 : Int) > 1 := by omega
      have w1' : IntKind.i64.wrap ((z1 : Int) - 1) = (K : Int) := by rw [show (z1 : Int) - 1 = (K : Int) by omega]; exact IntWalk.i64_in _ (by omega)
      have jK : (K : Int) < (z1 : Int) := by omega
      have jK0 : (0 : Int) ≤ (K : Int) := by omega
      clear g2 g3 hR2 hK e0 e1 hlast f0 f1
      refine wp_region_up (by kernel_rfl) (by kernel_rfl) ?_
      repeat (go_big_quiet_step (exact up_of HCH.out _ _))
      refine wpQuiet_nil ?_
      intro w1 hb0
      obtain ⟨hc0, hf0⟩ := bcell hb0
      exact hQ _ _ _ _ _ _ _ _ _ _ _ _ _ _ _ _ _ _ _ _ _ _ _ _ _ _ _ _ _ _ _ _ hb0
    · have jp1 : decide ((z1 : Int) > 1) = false := by simp; omega
      clear hlast hR2 f0 f1
      refine wp_region_up (by kernel_rfl) (by kernel_rfl) ?_
      repeat (go_big_quiet_step (exact up_of HCH.out _ _))
      refine wpQuiet_nil ?_
      intro w1 hb0
      obtain ⟨hc0, hf0⟩ := bcell hb0
      exact hQ _ _ _ _ _ _ _ _ _ _ _ _ _ _ _ _ _ _ _ _ _ _ _ _ _ _ _ _ _ _ _ _ hb0

set_option maxRecDepth 100000 in
set_option maxHeartbeats 4000000 in
theorem fo_r21 (cx cy fx fy sx sy : Int) (F k B12 Bs : Nat) (w : World)
    (s0 s1 s2 s3 s4 s5 s6 s7 s8 s9 s10 s11 s13 s17 s18 s19 s20 s23 s24 s25 s26 s27 s28 s29 s30 s31 s32 s33 s34 s35 s36 s37 s38 s39 s40 s41 s42 s43 s44 s45 s46 s47 s48 s49 s50 s51 s52 s53 s54 s55 s56 s57 s58 s59 s60 s61 s62 s63 s64 s65 s66 s67 s68 s69 s70 s71 s72 s73 s74 s75 s76 s77 s78 s79 s80 s81 s82 s83 s84 s85 s86 s87 s88 s89 s90 s91 s92 s93 s94 s95 s96 s97 s98 s99 s100 s101 s102 s103 s104 s105 s106 s107 s108 s109 s110 s111 s112 s113 s114 s115 s116 s117 s118 s119 s120 s121 s122 s123 s124 s125 s126 s127 s128 s129 s130 s131 s132 s133 s134 s135 s136 s137 s138 s139 s140 s141 s142 s143 s144 s145 s146 s147 s148 s149 s150 s151 s152 s153 s154 s155 s156 s157 s158 s159 s160 s161 s162 s163 s164 s165 s166 s167 s168 s169 s170 s171 s172 s173 s174 s175 s176 s177 s178 s179 s180 s181 s182 s183 s184 s185 s186 s187 s188 s189 s190 s191 s192 s193 s194 s195 s196 s197 s198 s199 s200 s201 s202 s203 s204 s205 s206 s207 s208 s209 s210 s211 s212 s213 s214 s215 s216 s217 s218 s219 s220 s221 s222 s223 s224 s225 s226 s227 s228 s229 s230 s231 s232 s233 s234 s235 s236 s237 s238 s239 s240 s241 s242 s243 s244 s245 s246 s247 s248 s249 s250 s251 s252 s253 s254 s255 s256 s257 s258 s259 s260 s261 s262 s263 s264 s265 s266 s267 s268 s269 s270 s271 s272 s273 s274 s275 s276 s277 s278 s279 s280 s281 s282 s283 s284 s285 s286 s287 s288 s289 s290 s291 s292 s293 s294 s295 s296 s297 s298 s299 s300 s301 s302 s303 s304 s305 s306 s307 s308 s309 s310 s311 s312 s313 s314 s315 s316 s317 s318 s319 s320 s321 s322 s323 s324 s325 s326 s327 s328 s329 s330 s331 s332 s333 s334 s335 s336 s337 s338 s339 s340 s341 s342 s343 s344 s345 s346 s347 s348 s349 s350 s351 s352 s353 s354 s355 s356 s357 s358 s359 s360 s361 s362 s363 s364 s365 : Value) (Q0 : Exit → Act → World → Prop)
    (hx : (0 ≤ cx ∧ cx ≤ 1280) ∧ 0 ≤ cy ∧ cy ≤ 672) (ha : -200 ≤ fx ∧ fx ≤ 200) (hb : -200 ≤ fy ∧ fy ≤ 200) (hF : 1 ≤ F ∧ F ≤ 12) (hk : k ≤ 12) (HSX : Hid (blX cx fx F k = sx)) (HSY : Hid (blY cy fy F k = sy)) (bs : Box2 w Bs sx sy) (bc : Box2 w B12 cx cy)
    (hQ : ∀ (w' : World) (u164 u165 u166 u167 u168 u169 u170 u171 u172 u173 u174 u175 u176 u177 u178 u179 u180 u181 u182 u183 u184 u185 u186 : Value), Below w.heap.size w w' → Q0 .normal ⟨#[s0, s1, s2, s3, s4, s5, s6, s7, s8, s9, s10, s11, (.pointer (some ⟨B12, 0, none⟩)), s13, (.int .i64 (F : Int)), (.int .i64 fx), (.int .i64 fy), s17, s18, s19, s20, (.int .i64 (k : Int)), (.pointer (some ⟨Bs, 0, none⟩)), s23, s24, s25, s26, s27, s28, s29, s30, s31, s32, s33, s34, s35, s36, s37, s38, s39, s40, s41, s42, s43, s44, s45, s46, s47, s48, s49, s50, s51, s52, s53, s54, s55, s56, s57, s58, s59, s60, s61, s62, s63, s64, s65, s66, s67, s68, s69, s70, s71, s72, s73, s74, s75, s76, s77, s78, s79, s80, s81, s82, s83, s84, s85, s86, s87, s88, s89, s90, s91, s92, s93, s94, s95, s96, s97, s98, s99, s100, s101, s102, s103, s104, s105, s106, s107, s108, s109, s110, s111, s112, s113, s114, s115, s116, s117, s118, s119, s120, s121, s122, s123, s124, s125, s126, s127, s128, s129, s130, s131, s132, s133, s134, s135, s136, s137, s138, s139, s140, s141, s142, s143, s144, s145, s146, s147, s148, s149, s150, s151, s152, s153, s154, s155, s156, s157, s158, s159, s160, s161, s162, s163, u164, u165, u166, u167, u168, u169, u170, u171, u172, u173, u174, u175, u176, u177, u178, u179, u180, u181, u182, u183, u184, u185, u186, (.bool false), s188, s189, s190, s191, s192, s193, s194, s195, s196, s197, s198, s199, s200, s201, s202, s203, s204, s205, s206, s207, s208, s209, s210, s211, s212, s213, s214, s215, s216, s217, s218, s219, s220, s221, s222, s223, s224, s225, s226, s227, s228, s229, s230, s231, s232, s233, s234, s235, s236, s237, s238, s239, s240, s241, s242, s243, s244, s245, s246, s247, s248, s249, s250, s251, s252, s253, s254, s255, s256, s257, s258, s259, s260, s261, s262, s263, s264, s265, s266, s267, s268, s269, s270, s271, s272, s273, s274, s275, s276, s277, s278, s279, s280, s281, s282, s283, s284, s285, s286, s287, s288, s289, s290, s291, s292, s293, s294, s295, s296, s297, s298, s299, s300, s301, s302, s303, s304, s305, s306, s307, s308, s309, s310, s311, s312, s313, s314, s315, s316, s317, s318, s319, s320, s321, s322, s323, s324, s325, s326, s327, s328, s329, s330, s331, s332, s333, s334, s335, s336, s337, s338, s339, s340, s341, s342, s343, s344, s345, s346, s347, s348, s349, s350, s351, s352, s353, s354, s355, s356, s357, s358, s359, s360, s361, s362, s363, s364, s365], []⟩ w') :
    Code.wp Try.prog ((Try.f5.body.bind (findRegion 21)).getD .skip) Q0 ⟨#[s0, s1, s2, s3, s4, s5, s6, s7, s8, s9, s10, s11, (.pointer (some ⟨B12, 0, none⟩)), s13, (.int .i64 (F : Int)), (.int .i64 fx), (.int .i64 fy), s17, s18, s19, s20, (.int .i64 (k : Int)), (.pointer (some ⟨Bs, 0, none⟩)), s23, s24, s25, s26, s27, s28, s29, s30, s31, s32, s33, s34, s35, s36, s37, s38, s39, s40, s41, s42, s43, s44, s45, s46, s47, s48, s49, s50, s51, s52, s53, s54, s55, s56, s57, s58, s59, s60, s61, s62, s63, s64, s65, s66, s67, s68, s69, s70, s71, s72, s73, s74, s75, s76, s77, s78, s79, s80, s81, s82, s83, s84, s85, s86, s87, s88, s89, s90, s91, s92, s93, s94, s95, s96, s97, s98, s99, s100, s101, s102, s103, s104, s105, s106, s107, s108, s109, s110, s111, s112, s113, s114, s115, s116, s117, s118, s119, s120, s121, s122, s123, s124, s125, s126, s127, s128, s129, s130, s131, s132, s133, s134, s135, s136, s137, s138, s139, s140, s141, s142, s143, s144, s145, s146, s147, s148, s149, s150, s151, s152, s153, s154, s155, s156, s157, s158, s159, s160, s161, s162, s163, s164, s165, s166, s167, s168, s169, s170, s171, s172, s173, s174, s175, s176, s177, s178, s179, s180, s181, s182, s183, s184, s185, s186, s187, s188, s189, s190, s191, s192, s193, s194, s195, s196, s197, s198, s199, s200, s201, s202, s203, s204, s205, s206, s207, s208, s209, s210, s211, s212, s213, s214, s215, s216, s217, s218, s219, s220, s221, s222, s223, s224, s225, s226, s227, s228, s229, s230, s231, s232, s233, s234, s235, s236, s237, s238, s239, s240, s241, s242, s243, s244, s245, s246, s247, s248, s249, s250, s251, s252, s253, s254, s255, s256, s257, s258, s259, s260, s261, s262, s263, s264, s265, s266, s267, s268, s269, s270, s271, s272, s273, s274, s275, s276, s277, s278, s279, s280, s281, s282, s283, s284, s285, s286, s287, s288, s289, s290, s291, s292, s293, s294, s295, s296, s297, s298, s299, s300, s301, s302, s303, s304, s305, s306, s307, s308, s309, s310, s311, s312, s313, s314, s315, s316, s317, s318, s319, s320, s321, s322, s323, s324, s325, s326, s327, s328, s329, s330, s331, s332, s333, s334, s335, s336, s337, s338, s339, s340, s341, s342, s343, s344, s345, s346, s347, s348, s349, s350, s351, s352, s353, s354, s355, s356, s357, s358, s359, s360, s361, s362, s363, s364, s365], []⟩ w := by
  conv => arg 2; whnf
  try dsimp only
  obtain ⟨⟨x1, x2⟩, y1, y2⟩ := hx
  obtain ⟨a1, a2⟩ := ha
  obtain ⟨b1, b2⟩ := hb
  obtain ⟨f1, f2⟩ := hF
  have c0 := cell_regrown bs.c0
  have c1 := cell_regrown bs.c1
  have c2 := cell_regrown bc.c0
  have c3 := cell_regrown bc.c1
  have hF0 : ((F : Int) == 0) = false := by simp; omega
  have jF0 : ¬ (F : Int) = 0 := by omega
  obtain ⟨M, hM⟩ : ∃ M : Nat, k % F = M := ⟨_, rfl⟩
  obtain ⟨D, hD⟩ : ∃ D : Nat, k / F = D := ⟨_, rfl⟩
  have hM12 : M ≤ 12 := by rw [← hM]; have := Nat.mod_lt k (show F > 0 by omega); omega
  have hD12 : D ≤ 12 := by rw [← hD]; have := Nat.div_le_self k F; omega
  have m1 : Int.tmod (k : Int) (F : Int) = (M : Int) := by rw [← hM]; rfl
  have m2 : Int.tdiv (k : Int) (F : Int) = (D : Int) := by rw [← hD]; rfl
  have m1' : (k : Int) % (F : Int) = (M : Int) := by rw [← hM]; rfl
  have m2' : (k : Int) / (F : Int) = (D : Int) := by rw [← hD]; rfl
  have d1 := mul_bd (a := (M : Int)) (b := fx) (A := 12) (B := 200) (by omega) (by omega) (by omega) (by omega)
  have d2 := mul_bd (a := (D : Int)) (b := fy) (A := 12) (B := 200) (by omega) (by omega) (by omega) (by omega)
  have m3 : IntKind.i64.wrap ((M : Int) * fx) = (M : Int) * fx := IntWalk.i64_in _ (by omega)
  have m4 : IntKind.i64.wrap ((D : Int) * fy) = (D : Int) * fy := IntWalk.i64_in _ (by omega)
  have m5 : IntKind.i64.wrap (cx + (M : Int) * fx) = sx := by
    rw [← HSX.out]; unfold blX; rw [hM, Int.mul_comm fx]; exact IntWalk.i64_in _ (by omega)
  have m6 : IntKind.i64.wrap (cy + (D : Int) * fy) = sy := by
    rw [← HSY.out]; unfold blY; rw [hD, Int.mul_comm fy]; exact IntWalk.i64_in _ (by omega)
  have m7 : (sx != sx) = false := by simp
  have m8 : (sy != sy) = false := by simp
  have mM : IntKind.i64.wrap (M : Int) = (M : Int) := IntWalk.i64_in _ (by omega)
  have mD : IntKind.i64.wrap (D : Int) = (D : Int) := IntWalk.i64_in _ (by omega)
  clear hM hD HSX HSY d1 d2
  refine wp_region_up (by kernel_rfl) (by kernel_rfl) ?_
  repeat (go_big_quiet_step (fail))
  refine wpQuiet_nil ?_
  intro w1 hb0
  obtain ⟨hc0, hf0⟩ := bcell hb0
  exact hQ _ _ _ _ _ _ _ _ _ _ _ _ _ _ _ _ _ _ _ _ _ _ _ _ hb0
set_option maxRecDepth 100000 in
set_option maxHeartbeats 4000000 in
theorem fo_r32 (p4 : Int) (q4 : Bool) (z4 np : Nat) (PX PY : Nat → Int) (Ay : Option Addr) (cy4 : Nat) (Ap : Option Addr) (cp4 : Nat) (w : World)
    (s0 s1 s2 s3 s4 s5 s6 s7 s8 s9 s10 s11 s12 s13 s14 s15 s16 s17 s18 s19 s20 s21 s22 s23 s24 s25 s26 s27 s28 s29 s30 s33 s36 s37 s38 s39 s40 s41 s42 s43 s44 s45 s46 s47 s48 s49 s50 s51 s52 s53 s54 s55 s56 s57 s58 s59 s60 s61 s62 s63 s64 s65 s66 s67 s68 s69 s70 s71 s72 s73 s74 s75 s76 s77 s78 s79 s80 s81 s82 s83 s84 s85 s86 s87 s88 s89 s90 s91 s92 s93 s94 s95 s96 s97 s98 s99 s100 s101 s102 s103 s104 s105 s106 s107 s108 s109 s110 s111 s112 s113 s114 s115 s116 s117 s118 s119 s120 s121 s122 s123 s124 s125 s126 s127 s128 s129 s130 s131 s132 s133 s134 s135 s136 s137 s138 s139 s140 s141 s142 s143 s144 s145 s146 s147 s148 s149 s150 s151 s152 s153 s154 s155 s156 s157 s158 s159 s160 s161 s162 s163 s164 s165 s166 s167 s168 s169 s170 s171 s172 s173 s174 s175 s176 s177 s178 s179 s180 s181 s182 s183 s184 s185 s186 s187 s188 s189 s190 s191 s192 s193 s194 s195 s196 s197 s198 s199 s200 s201 s202 s203 s204 s205 s206 s207 s208 s209 s210 s211 s212 s213 s214 s215 s216 s217 s218 s219 s220 s221 s222 s223 s224 s225 s226 s227 s228 s229 s230 s231 s232 s233 s234 s235 s236 s237 s238 s239 s240 s241 s242 s243 s244 s245 s246 s247 s248 s249 s250 s251 s252 s253 s254 s255 s256 s257 s258 s259 s260 s261 s262 s263 s264 s265 s266 s267 s268 s269 s270 s271 s272 s273 s274 s275 s276 s277 s278 s279 s280 s281 s282 s283 s284 s285 s286 s287 s288 s289 s290 s291 s292 s293 s294 s295 s296 s297 s298 s299 s300 s301 s302 s303 s304 s305 s306 s307 s308 s309 s310 s311 s312 s313 s314 s315 s316 s317 s318 s319 s320 s321 s322 s323 s324 s325 s326 s327 s328 s329 s330 s331 s332 s333 s334 s335 s336 s337 s338 s339 s340 s341 s342 s343 s344 s345 s346 s347 s348 s349 s350 s351 s352 s353 s354 s355 s356 s357 s358 s359 s360 s361 s362 s363 s364 s365 : Value) (Q0 : Exit → Act → World → Prop)
    (hy : Spots w (.slice Ay z4 cy4) z4 (poX PX (np - 1) (poC p4)) (poX PY (np - 1) (poC p4))) (hp : Spots w (.slice Ap np cp4) np PX PY) (HQ4 : Hid (poB np PX PY p4 = q4)) (HZ4 : Hid (q4 = true → z4 = p4.toNat)) (hz44 : z4 ≤ 12)
    (hQ : ∀ (w' : World) (u258 u259 u260 u261 u262 u263 u264 u265 u266 u267 u268 u269 u270 u271 u272 u273 u274 u275 u276 u277 u278 u279 u280 u281 u282 u283 u284 u285 u286 u287 u288 u289 u290 : Value), Below w.heap.size w w' → Q0 .normal ⟨#[s0, s1, s2, s3, s4, s5, s6, s7, s8, s9, s10, s11, s12, s13, s14, s15, s16, s17, s18, s19, s20, s21, s22, s23, s24, s25, s26, s27, s28, s29, s30, (.slice Ap np cp4), (.int .i64 p4), s33, (.bool q4), (.slice Ay z4 cy4), s36, s37, s38, s39, s40, s41, s42, s43, s44, s45, s46, s47, s48, s49, s50, s51, s52, s53, s54, s55, s56, s57, s58, s59, s60, s61, s62, s63, s64, s65, s66, s67, s68, s69, s70, s71, s72, s73, s74, s75, s76, s77, s78, s79, s80, s81, s82, s83, s84, s85, s86, s87, s88, s89, s90, s91, s92, s93, s94, s95, s96, s97, s98, s99, s100, s101, s102, s103, s104, s105, s106, s107, s108, s109, s110, s111, s112, s113, s114, s115, s116, s117, s118, s119, s120, s121, s122, s123, s124, s125, s126, s127, s128, s129, s130, s131, s132, s133, s134, s135, s136, s137, s138, s139, s140, s141, s142, s143, s144, s145, s146, s147, s148, s149, s150, s151, s152, s153, s154, s155, s156, s157, s158, s159, s160, s161, s162, s163, s164, s165, s166, s167, s168, s169, s170, s171, s172, s173, s174, s175, s176, s177, s178, s179, s180, s181, s182, s183, s184, s185, s186, s187, s188, s189, s190, s191, s192, s193, s194, s195, s196, s197, s198, s199, s200, s201, s202, s203, s204, s205, s206, s207, s208, s209, s210, s211, s212, s213, s214, s215, s216, s217, s218, s219, s220, s221, s222, s223, s224, s225, s226, s227, s228, s229, s230, s231, s232, s233, s234, s235, s236, s237, s238, s239, s240, s241, s242, s243, s244, s245, s246, s247, s248, s249, s250, s251, s252, s253, s254, s255, s256, s257, u258, u259, u260, u261, u262, u263, u264, u265, u266, u267, u268, u269, u270, u271, u272, u273, u274, u275, u276, u277, u278, u279, u280, u281, u282, u283, u284, u285, u286, u287, u288, u289, u290, (.bool false), s292, s293, s294, s295, s296, s297, s298, s299, s300, s301, s302, s303, s304, s305, s306, s307, s308, s309, s310, s311, s312, s313, s314, s315, s316, s317, s318, s319, s320, s321, s322, s323, s324, s325, s326, s327, s328, s329, s330, s331, s332, s333, s334, s335, s336, s337, s338, s339, s340, s341, s342, s343, s344, s345, s346, s347, s348, s349, s350, s351, s352, s353, s354, s355, s356, s357, s358, s359, s360, s361, s362, s363, s364, s365], []⟩ w') :
    Code.wp Try.prog ((Try.f5.body.bind (findRegion 32)).getD .skip) Q0 ⟨#[s0, s1, s2, s3, s4, s5, s6, s7, s8, s9, s10, s11, s12, s13, s14, s15, s16, s17, s18, s19, s20, s21, s22, s23, s24, s25, s26, s27, s28, s29, s30, (.slice Ap np cp4), (.int .i64 p4), s33, (.bool q4), (.slice Ay z4 cy4), s36, s37, s38, s39, s40, s41, s42, s43, s44, s45, s46, s47, s48, s49, s50, s51, s52, s53, s54, s55, s56, s57, s58, s59, s60, s61, s62, s63, s64, s65, s66, s67, s68, s69, s70, s71, s72, s73, s74, s75, s76, s77, s78, s79, s80, s81, s82, s83, s84, s85, s86, s87, s88, s89, s90, s91, s92, s93, s94, s95, s96, s97, s98, s99, s100, s101, s102, s103, s104, s105, s106, s107, s108, s109, s110, s111, s112, s113, s114, s115, s116, s117, s118, s119, s120, s121, s122, s123, s124, s125, s126, s127, s128, s129, s130, s131, s132, s133, s134, s135, s136, s137, s138, s139, s140, s141, s142, s143, s144, s145, s146, s147, s148, s149, s150, s151, s152, s153, s154, s155, s156, s157, s158, s159, s160, s161, s162, s163, s164, s165, s166, s167, s168, s169, s170, s171, s172, s173, s174, s175, s176, s177, s178, s179, s180, s181, s182, s183, s184, s185, s186, s187, s188, s189, s190, s191, s192, s193, s194, s195, s196, s197, s198, s199, s200, s201, s202, s203, s204, s205, s206, s207, s208, s209, s210, s211, s212, s213, s214, s215, s216, s217, s218, s219, s220, s221, s222, s223, s224, s225, s226, s227, s228, s229, s230, s231, s232, s233, s234, s235, s236, s237, s238, s239, s240, s241, s242, s243, s244, s245, s246, s247, s248, s249, s250, s251, s252, s253, s254, s255, s256, s257, s258, s259, s260, s261, s262, s263, s264, s265, s266, s267, s268, s269, s270, s271, s272, s273, s274, s275, s276, s277, s278, s279, s280, s281, s282, s283, s284, s285, s286, s287, s288, s289, s290, s291, s292, s293, s294, s295, s296, s297, s298, s299, s300, s301, s302, s303, s304, s305, s306, s307, s308, s309, s310, s311, s312, s313, s314, s315, s316, s317, s318, s319, s320, s321, s322, s323, s324, s325, s326, s327, s328, s329, s330, s331, s332, s333, s334, s335, s336, s337, s338, s339, s340, s341, s342, s343, s344, s345, s346, s347, s348, s349, s350, s351, s352, s353, s354, s355, s356, s357, s358, s359, s360, s361, s362, s363, s364, s365], []⟩ w := by
  conv => arg 2; whnf
  try dsimp only
  cases q4 with
  | false =>
    refine wp_region_up (by kernel_rfl) (by kernel_rfl) ?_
    repeat (go_big_quiet_step (fail))
    refine wpQuiet_nil ?_
    intro w1 hb0
    obtain ⟨hc0, hf0⟩ := bcell hb0
    exact hQ _ _ _ _ _ _ _ _ _ _ _ _ _ _ _ _ _ _ _ _ _ _ _ _ _ _ _ _ _ _ _ _ _ _ hb0
  | true =>
    obtain ⟨⟨p1, p2⟩, np1, np2, ⟨f0, f1⟩, hlast⟩ := po_facts HQ4.out
    have hz := HZ4.out rfl
    obtain ⟨pN, rfl⟩ : ∃ pN : Nat, p4 = pN := ⟨p4.toNat, by omega⟩
    simp only [Int.toNat_natCast] at hz
    subst hz
    obtain ⟨Ak2, ck2, e2, _, hr2⟩ := hy
    injection e2 with e3 _ e4
    subst e3
    subst e4
    obtain ⟨bd, od, rfl, hR2⟩ := hr2 (by omega)
    obtain ⟨Ak2, ck2, e2, _, hr3⟩ := hp
    injection e2 with e3 _ e4
    subst e3
    subst e4
    obtain ⟨bp, op, rfl, hR3⟩ := hr3 (by omega)
    have g0 := (hR2 0 (by omega)).1
    have g1 := (hR2 0 (by omega)).2
    have g2 := (hR3 0 (by omega)).1
    have g3 := (hR3 0 (by omega)).2
    rw [f0, Nat.zero_mul, Nat.add_zero] at g0
    rw [f1, Nat.zero_mul, Nat.add_zero] at g1
    rw [Nat.zero_mul, Nat.add_zero] at g2 g3
    have c0 := cell_regrown g0
    have c1 := cell_regrown g1
    have c2 := cell_regrown g2
    have c3 := cell_regrown g3
    have jp0 : 0 < z4 := by omega
    have jp2 : 0 < np := by omega
    have ez1 : ((z4 : Int) != (z4 : Int)) = false := by simp
    clear g0 g1 g2 g3 hr2 hr3 HQ4 HZ4
    by_cases hp1 : 1 < z4
    · obtain ⟨e0, e1⟩ := hlast (by omega)
      obtain ⟨K, hK⟩ : ∃ K, ((z4 : Int) - 1).toNat = K := ⟨_, rfl⟩
      obtain ⟨L, hL⟩ : ∃ L, np - 1 = L := ⟨_, rfl⟩
      rw [hK, hL] at e0 e1
      have hKz : K < z4 := by omega
      have hLn : L < np := by omega
      have g2 := (hR2 K hKz).1
      have g3 := (hR2 K hKz).2
      rw [hL, e0] at g2
      rw [hL, e1] at g3
      have c6 := cell_regrown g2
      have c7 := cell_regrown g3
      have c8 := cell_regrown (hR3 L hLn).1
      have c9 := cell_regrown (hR3 L hLn).2
      have jp1 : (z4 : Int) > 1 := by omega
      have w1' : IntKind.i64.wrap ((z4 : Int) - 1) = (K : Int) := by rw [show (z4 : Int) - 1 = (K : Int) by omega]; exact IntWalk.i64_in _ (by omega)
      have w2' : IntKind.i64.wrap ((np : Int) - 1) = (L : Int) := by rw [show (np : Int) - 1 = (L : Int) by omega]; exact IntWalk.i64_in _ (by omega)
      have jK : (K : Int) < (z4 : Int) := by omega
      have jK0 : (0 : Int) ≤ (K : Int) := by omega
      have jL : (L : Int) < (np : Int) := by omega
      have jL0 : (0 : Int) ≤ (L : Int) := by omega
      clear g2 g3 hR2 hR3 hK hL e0 e1 hlast f0 f1
      refine wp_region_up (by kernel_rfl) (by kernel_rfl) ?_
      repeat (go_big_quiet_step (fail))
      refine wpQuiet_nil ?_
      intro w1 hb0
      obtain ⟨hc0, hf0⟩ := bcell hb0
      exact hQ _ _ _ _ _ _ _ _ _ _ _ _ _ _ _ _ _ _ _ _ _ _ _ _ _ _ _ _ _ _ _ _ _ _ hb0
    · have jp1 : decide ((z4 : Int) > 1) = false := by simp; omega
      clear hlast hR2 hR3 f0 f1
      refine wp_region_up (by kernel_rfl) (by kernel_rfl) ?_
      repeat (go_big_quiet_step (fail))
      refine wpQuiet_nil ?_
      intro w1 hb0
      obtain ⟨hc0, hf0⟩ := bcell hb0
      exact hQ _ _ _ _ _ _ _ _ _ _ _ _ _ _ _ _ _ _ _ _ _ _ _ _ _ _ _ _ _ _ _ _ _ _ hb0

set_option maxRecDepth 100000 in
set_option maxHeartbeats 4000000 in
theorem fo_r47 (z x y u v : Int) (k l n bf of cf : Nat) (w : World)
    (s0 s1 s2 s3 s4 s5 s6 s7 s8 s9 s10 s11 s12 s13 s14 s15 s16 s17 s18 s19 s20 s21 s22 s23 s24 s25 s26 s27 s28 s29 s30 s31 s32 s33 s34 s35 s36 s38 s39 s40 s41 s42 s44 s46 s47 s48 s49 s50 s51 s52 s53 s54 s55 s56 s57 s58 s59 s60 s61 s62 s63 s64 s65 s66 s67 s68 s69 s70 s71 s72 s73 s74 s75 s76 s77 s78 s79 s80 s81 s82 s83 s84 s85 s86 s87 s88 s89 s90 s91 s92 s93 s94 s95 s96 s97 s98 s99 s100 s101 s102 s103 s104 s105 s106 s107 s108 s109 s110 s111 s112 s113 s114 s115 s116 s117 s118 s119 s120 s121 s122 s123 s124 s125 s126 s127 s128 s129 s130 s131 s132 s133 s134 s135 s136 s137 s138 s139 s140 s141 s142 s143 s144 s145 s146 s147 s148 s149 s150 s151 s152 s153 s154 s155 s156 s157 s158 s159 s160 s161 s162 s163 s164 s165 s166 s167 s168 s169 s170 s171 s172 s173 s174 s175 s176 s177 s178 s179 s180 s181 s182 s183 s184 s185 s186 s187 s188 s189 s190 s191 s192 s193 s194 s195 s196 s197 s198 s199 s200 s201 s202 s203 s204 s205 s206 s207 s208 s209 s210 s211 s212 s213 s214 s215 s216 s217 s218 s219 s220 s221 s222 s223 s224 s225 s226 s227 s228 s229 s230 s231 s232 s233 s234 s235 s236 s237 s238 s239 s240 s241 s242 s243 s244 s245 s246 s247 s248 s249 s250 s251 s252 s253 s254 s255 s256 s257 s258 s259 s260 s261 s262 s263 s264 s265 s266 s267 s268 s269 s270 s271 s272 s273 s274 s275 s276 s277 s278 s279 s280 s281 s282 s283 s284 s285 s286 s287 s288 s289 s290 s291 s292 s293 s294 s295 s296 s297 s298 s299 s300 s301 s302 s303 s304 s305 s306 s307 s308 s309 s310 s311 s312 s313 s314 s315 s316 s317 s318 s319 s320 s321 s322 s323 s324 s325 s326 s327 s328 s329 s330 s331 s332 s333 s334 s335 s336 s337 s338 s339 s340 s341 s342 s343 s344 s345 s346 s347 s348 s349 s350 s351 s352 s353 s354 s355 s356 s357 s358 s359 s360 s361 s362 s363 s364 s365 : Value) (Q0 : Exit → Act → World → Prop)
    (HQ2 : Hid (∀ W, Calls Try.prog 55 #[.agg #[.int .i64 x, .int .i64 y], .agg #[.int .i64 u, .int .i64 v]] W (Ans W (.tuple #[.int .i64 z, .bool true])))) (jk : (k : Int) < (n : Int)) (jl : (l : Int) < (n : Int)) (h0 : w.cell? ⟨bf, of + k * 2, none⟩ = some (.int .i64 x)) (h1 : w.cell? ⟨bf, of + k * 2 + 1, none⟩ = some (.int .i64 y)) (h2 : w.cell? ⟨bf, of + l * 2, none⟩ = some (.int .i64 u)) (h3 : w.cell? ⟨bf, of + l * 2 + 1, none⟩ = some (.int .i64 v))
    (hQ : ∀ (w' : World) (u341 u342 u343 u344 u345 u346 u347 u348 u349 u350 u351 u352 : Value), Below w.heap.size w w' → Q0 .normal ⟨#[s0, s1, s2, s3, s4, s5, s6, s7, s8, s9, s10, s11, s12, s13, s14, s15, s16, s17, s18, s19, s20, s21, s22, s23, s24, s25, s26, s27, s28, s29, s30, s31, s32, s33, s34, s35, s36, (.slice (some ⟨bf, of, none⟩) n cf), s38, s39, s40, s41, s42, (.int .i64 (k : Int)), s44, (.int .i64 (l : Int)), s46, s47, s48, (.int .i64 z), (.bool true), s51, s52, s53, s54, s55, s56, s57, s58, s59, s60, s61, s62, s63, s64, s65, s66, s67, s68, s69, s70, s71, s72, s73, s74, s75, s76, s77, s78, s79, s80, s81, s82, s83, s84, s85, s86, s87, s88, s89, s90, s91, s92, s93, s94, s95, s96, s97, s98, s99, s100, s101, s102, s103, s104, s105, s106, s107, s108, s109, s110, s111, s112, s113, s114, s115, s116, s117, s118, s119, s120, s121, s122, s123, s124, s125, s126, s127, s128, s129, s130, s131, s132, s133, s134, s135, s136, s137, s138, s139, s140, s141, s142, s143, s144, s145, s146, s147, s148, s149, s150, s151, s152, s153, s154, s155, s156, s157, s158, s159, s160, s161, s162, s163, s164, s165, s166, s167, s168, s169, s170, s171, s172, s173, s174, s175, s176, s177, s178, s179, s180, s181, s182, s183, s184, s185, s186, s187, s188, s189, s190, s191, s192, s193, s194, s195, s196, s197, s198, s199, s200, s201, s202, s203, s204, s205, s206, s207, s208, s209, s210, s211, s212, s213, s214, s215, s216, s217, s218, s219, s220, s221, s222, s223, s224, s225, s226, s227, s228, s229, s230, s231, s232, s233, s234, s235, s236, s237, s238, s239, s240, s241, s242, s243, s244, s245, s246, s247, s248, s249, s250, s251, s252, s253, s254, s255, s256, s257, s258, s259, s260, s261, s262, s263, s264, s265, s266, s267, s268, s269, s270, s271, s272, s273, s274, s275, s276, s277, s278, s279, s280, s281, s282, s283, s284, s285, s286, s287, s288, s289, s290, s291, s292, s293, s294, s295, s296, s297, s298, s299, s300, s301, s302, s303, s304, s305, s306, s307, s308, s309, s310, s311, s312, s313, s314, s315, s316, s317, s318, s319, s320, s321, s322, s323, s324, s325, s326, s327, s328, s329, s330, s331, s332, s333, s334, s335, s336, s337, s338, s339, s340, u341, u342, u343, u344, u345, u346, u347, u348, u349, u350, u351, u352, s353, s354, s355, s356, s357, s358, s359, s360, s361, s362, s363, s364, s365], []⟩ w') :
    Code.wp Try.prog ((Try.f5.body.bind (findRegion 47)).getD .skip) Q0 ⟨#[s0, s1, s2, s3, s4, s5, s6, s7, s8, s9, s10, s11, s12, s13, s14, s15, s16, s17, s18, s19, s20, s21, s22, s23, s24, s25, s26, s27, s28, s29, s30, s31, s32, s33, s34, s35, s36, (.slice (some ⟨bf, of, none⟩) n cf), s38, s39, s40, s41, s42, (.int .i64 (k : Int)), s44, (.int .i64 (l : Int)), s46, s47, s48, s49, s50, s51, s52, s53, s54, s55, s56, s57, s58, s59, s60, s61, s62, s63, s64, s65, s66, s67, s68, s69, s70, s71, s72, s73, s74, s75, s76, s77, s78, s79, s80, s81, s82, s83, s84, s85, s86, s87, s88, s89, s90, s91, s92, s93, s94, s95, s96, s97, s98, s99, s100, s101, s102, s103, s104, s105, s106, s107, s108, s109, s110, s111, s112, s113, s114, s115, s116, s117, s118, s119, s120, s121, s122, s123, s124, s125, s126, s127, s128, s129, s130, s131, s132, s133, s134, s135, s136, s137, s138, s139, s140, s141, s142, s143, s144, s145, s146, s147, s148, s149, s150, s151, s152, s153, s154, s155, s156, s157, s158, s159, s160, s161, s162, s163, s164, s165, s166, s167, s168, s169, s170, s171, s172, s173, s174, s175, s176, s177, s178, s179, s180, s181, s182, s183, s184, s185, s186, s187, s188, s189, s190, s191, s192, s193, s194, s195, s196, s197, s198, s199, s200, s201, s202, s203, s204, s205, s206, s207, s208, s209, s210, s211, s212, s213, s214, s215, s216, s217, s218, s219, s220, s221, s222, s223, s224, s225, s226, s227, s228, s229, s230, s231, s232, s233, s234, s235, s236, s237, s238, s239, s240, s241, s242, s243, s244, s245, s246, s247, s248, s249, s250, s251, s252, s253, s254, s255, s256, s257, s258, s259, s260, s261, s262, s263, s264, s265, s266, s267, s268, s269, s270, s271, s272, s273, s274, s275, s276, s277, s278, s279, s280, s281, s282, s283, s284, s285, s286, s287, s288, s289, s290, s291, s292, s293, s294, s295, s296, s297, s298, s299, s300, s301, s302, s303, s304, s305, s306, s307, s308, s309, s310, s311, s312, s313, s314, s315, s316, s317, s318, s319, s320, s321, s322, s323, s324, s325, s326, s327, s328, s329, s330, s331, s332, s333, s334, s335, s336, s337, s338, s339, s340, s341, s342, s343, s344, s345, s346, s347, s348, s349, s350, s351, s352, s353, s354, s355, s356, s357, s358, s359, s360, s361, s362, s363, s364, s365], []⟩ w := by
  conv => arg 2; whnf
  try dsimp only
  have c0 := cell_regrown h0
  have c1 := cell_regrown h1
  have c2 := cell_regrown h2
  have c3 := cell_regrown h3
  refine wp_region_up (by kernel_rfl) (by kernel_rfl) ?_
  repeat (go_big_quiet_step (exact up_of (fun W _ => HQ2.out W) _ _))
  refine wpQuiet_nil ?_
  intro w1 hb0
  obtain ⟨hc0, hf0⟩ := bcell hb0
  exact hQ _ _ _ _ _ _ _ _ _ _ _ _ _ hb0
end Go.Proofs.Ytljbcfgecbonnaa
