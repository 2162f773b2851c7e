/- Words and contracts, part 13. -/
import Derived.Test.YtljdhicmcmppgaaRows
import Derived.BigQuiet
import Derived.Deep.LoopGhost
import Derived.Deep.Onto
import Derived.Deep.CutRange
import Derived.Deep.DeepCutAuto
import Derived.Test.YtljdhicmcmppgaaZ12
namespace Go.Proofs.Ytljdhicmcmppgaa
open Go.RowKit Go.ChangeShapes Go.WideShapes Go.Sort

set_option maxRecDepth 100000 in
set_option maxHeartbeats 32000000 in
theorem cl_if173 (x y u v c x' y' u' v' c' : Int) (q5 xc : Bool) (B24 B25 : Nat) (w : World)
    (s0 s1 s2 s3 s4 s5 s6 s7 s8 s9 s10 s11 s12 s13 s14 s15 s16 s17 s18 s19 s20 s21 s22 s23 s26 s27 s29 s38 s39 s40 s41 s42 s43 s44 s45 s46 s47 s48 s49 s50 s51 s52 s53 s54 s55 s56 s57 s58 s59 s60 s61 s62 s63 s64 s65 s66 s67 s68 s69 s70 s71 s72 s73 s74 s75 s76 s77 s78 s79 s80 s81 s82 s83 s84 s85 s86 s87 s88 s89 s90 s91 s92 s93 s94 s95 s96 s97 s98 s99 s100 s101 s102 s103 s104 s105 s106 s107 s108 s109 s110 s111 s112 s113 s114 s115 s116 s117 s118 s119 s120 s121 s122 s123 s124 s125 s126 s127 s128 s129 s130 s131 s132 s133 s134 s135 s136 s137 s138 s139 s140 s141 s142 s143 s144 s145 s146 s147 s148 s149 s150 s151 s152 s153 s154 s155 s156 s157 s158 s159 s160 s161 s162 s163 s164 s165 s166 s167 s168 s169 s170 s171 s172 s222 s223 s224 s225 s226 s227 s228 s229 s230 s231 s232 s233 s234 s235 s236 s237 s238 s239 s240 s241 s242 s243 s244 s245 s246 s247 s248 s249 s250 s251 s252 s253 s254 s255 s256 s257 s258 s259 s260 s261 s262 s263 s264 s265 s266 s267 s268 s269 s270 s271 s272 s273 s274 s275 s276 s277 s278 s279 s280 s281 s282 s283 s284 s285 s286 s287 s288 s289 s290 s291 s292 s293 s294 s295 s296 s297 s298 s299 s300 s301 s302 s303 s304 s305 s306 s307 s308 s309 s310 s311 s312 s313 s314 s315 s316 s317 s318 s319 s320 s321 s322 s323 s324 s325 s326 s327 s328 s329 s330 s331 s332 s333 s334 s335 s336 s337 s338 s339 s340 s341 s342 s343 s344 s345 s346 s347 s348 s349 s350 s351 s352 s353 s354 s355 s356 s357 s358 s359 s360 s361 s362 s363 s364 s365 s366 s367 s368 s369 s370 s371 s372 s373 s374 s375 s376 s377 s378 s379 s380 s381 s382 s383 s384 : Value) (Q0 : Exit → Act → World → Prop)
    (HQ5 : Hid (togB x y u v c x' y' u' v' c' = q5)) (HX : Hid ((togB x y u v c x' y' u' v' c' && wcB x y u v x' y' u' v') = xc)) (HM1 : Hid (MC w B24 x y u v c)) (HM2 : Hid (MC w B25 x' y' u' v' c'))
    (hQ : ∀ (w' : World) (u30 u31 u32 u33 u34 u35 u36 u37 u174 u175 u176 u177 u178 u179 u180 u181 u182 u183 u184 u185 u186 u187 u188 u189 u190 u191 u192 u193 u194 u195 u196 u197 u198 u199 u200 u201 u202 u203 u204 u205 u206 u207 u208 u209 u210 u211 u212 u213 u214 u215 u216 u217 u218 u219 u220 u221 : Value), Below w.heap.size w w' → Q0 (.normal) ⟨#[s0, s1, s2, s3, s4, s5, s6, s7, s8, s9, s10, s11, s12, s13, s14, s15, s16, s17, s18, s19, s20, s21, s22, s23, (.pointer (some ⟨B24, 0, none⟩)), (.pointer (some ⟨B25, 0, none⟩)), s26, s27, (.bool xc), s29, u30, u31, u32, u33, u34, u35, u36, u37, s38, s39, s40, s41, s42, s43, s44, s45, s46, s47, s48, s49, s50, s51, s52, s53, s54, s55, s56, s57, s58, s59, s60, s61, s62, s63, s64, s65, s66, s67, s68, s69, s70, s71, s72, s73, s74, s75, s76, s77, s78, s79, s80, s81, s82, s83, s84, s85, s86, s87, s88, s89, s90, s91, s92, s93, s94, s95, s96, s97, s98, s99, s100, s101, s102, s103, s104, s105, s106, s107, s108, s109, s110, s111, s112, s113, s114, s115, s116, s117, s118, s119, s120, s121, s122, s123, s124, s125, s126, s127, s128, s129, s130, s131, s132, s133, s134, s135, s136, s137, s138, s139, s140, s141, s142, s143, s144, s145, s146, s147, s148, s149, s150, s151, s152, s153, s154, s155, s156, s157, s158, s159, s160, s161, s162, s163, s164, s165, s166, s167, s168, s169, s170, s171, s172, (.bool q5), u174, u175, u176, u177, u178, u179, u180, u181, u182, u183, u184, u185, u186, u187, u188, u189, u190, u191, u192, u193, u194, u195, u196, u197, u198, u199, u200, u201, u202, u203, u204, u205, u206, u207, u208, u209, u210, u211, u212, u213, u214, u215, u216, u217, u218, u219, u220, u221, s222, s223, s224, s225, s226, s227, s228, s229, s230, s231, s232, s233, s234, s235, s236, s237, s238, s239, s240, s241, s242, s243, s244, s245, s246, s247, s248, s249, s250, s251, s252, s253, s254, s255, s256, s257, s258, s259, s260, s261, s262, s263, s264, s265, s266, s267, s268, s269, s270, s271, s272, s273, s274, s275, s276, s277, s278, s279, s280, s281, s282, s283, s284, s285, s286, s287, s288, s289, s290, s291, s292, s293, s294, s295, s296, s297, s298, s299, s300, s301, s302, s303, s304, s305, s306, s307, s308, s309, s310, s311, s312, s313, s314, s315, s316, s317, s318, s319, s320, s321, s322, s323, s324, s325, s326, s327, s328, s329, s330, s331, s332, s333, s334, s335, s336, s337, s338, s339, s340, s341, s342, s343, s344, s345, s346, s347, s348, s349, s350, s351, s352, s353, s354, s355, s356, s357, s358, s359, s360, s361, s362, s363, s364, s365, s366, s367, s368, s369, s370, s371, s372, s373, s374, s375, s376, s377, s378, s379, s380, s381, s382, s383, s384], []⟩ w') :
    Code.wp Try.prog ((Try.f4.body.bind (findIf 173)).getD .skip) Q0 ⟨#[s0, s1, s2, s3, s4, s5, s6, s7, s8, s9, s10, s11, s12, s13, s14, s15, s16, s17, s18, s19, s20, s21, s22, s23, (.pointer (some ⟨B24, 0, none⟩)), (.pointer (some ⟨B25, 0, none⟩)), s26, s27, (.bool xc), s29, undef, undef, undef, undef, undef, undef, undef, undef, s38, s39, s40, s41, s42, s43, s44, s45, s46, s47, s48, s49, s50, s51, s52, s53, s54, s55, s56, s57, s58, s59, s60, s61, s62, s63, s64, s65, s66, s67, s68, s69, s70, s71, s72, s73, s74, s75, s76, s77, s78, s79, s80, s81, s82, s83, s84, s85, s86, s87, s88, s89, s90, s91, s92, s93, s94, s95, s96, s97, s98, s99, s100, s101, s102, s103, s104, s105, s106, s107, s108, s109, s110, s111, s112, s113, s114, s115, s116, s117, s118, s119, s120, s121, s122, s123, s124, s125, s126, s127, s128, s129, s130, s131, s132, s133, s134, s135, s136, s137, s138, s139, s140, s141, s142, s143, s144, s145, s146, s147, s148, s149, s150, s151, s152, s153, s154, s155, s156, s157, s158, s159, s160, s161, s162, s163, s164, s165, s166, s167, s168, s169, s170, s171, s172, (.bool q5), undef, undef, undef, undef, undef, undef, undef, undef, undef, undef, undef, undef, undef, undef, undef, undef, undef, undef, undef, undef, undef, undef, undef, undef, undef, undef, undef, undef, undef, undef, undef, undef, undef, undef, undef, undef, undef, undef, undef, undef, undef, undef, undef, undef, undef, undef, undef, undef, s222, s223, s224, s225, s226, s227, s228, s229, s230, s231, s232, s233, s234, s235, s236, s237, s238, s239, s240, s241, s242, s243, s244, s245, s246, s247, s248, s249, s250, s251, s252, s253, s254, s255, s256, s257, s258, s259, s260, s261, s262, s263, s264, s265, s266, s267, s268, s269, s270, s271, s272, s273, s274, s275, s276, s277, s278, s279, s280, s281, s282, s283, s284, s285, s286, s287, s288, s289, s290, s291, s292, s293, s294, s295, s296, s297, s298, s299, s300, s301, s302, s303, s304, s305, s306, s307, s308, s309, s310, s311, s312, s313, s314, s315, s316, s317, s318, s319, s320, s321, s322, s323, s324, s325, s326, s327, s328, s329, s330, s331, s332, s333, s334, s335, s336, s337, s338, s339, s340, s341, s342, s343, s344, s345, s346, s347, s348, s349, s350, s351, s352, s353, s354, s355, s356, s357, s358, s359, s360, s361, s362, s363, s364, s365, s366, s367, s368, s369, s370, s371, s372, s373, s374, s375, s376, s377, s378, s379, s380, s381, s382, s383, s384], []⟩ w := by
  conv => arg 2; whnf
  try dsimp only
  cases q5 with
  | false =>
    go_wp2_with fail
    all_goals (first | exact (Below.refl _ _) | exact hQ _ _ _ _ _ _ _ _ _ _ _ _ _ _ _ _ _ _ _ _ _ _ _ _ _ _ _ _ _ _ _ _ _ _ _ _ _ _ _ _ _ _ _ _ _ _ _ _ _ _ _ _ _ _ _ _ _ (Below.refl _ _))
  | true =>
    have ht := HQ5.out
    have hx := HX.out
    rw [ht, Bool.true_and] at hx
    have hm := togB_iff.1 ht
    have HWi := Lib.hid (fun W => iWaysCross_any x' y' u' v' c' x y u v c W)
    unfold wcV at HWi
    rw [tog_comm ht, wc_comm, hx, Bool.true_and] at HWi
    have HLi := Lib.hid (fun W => iLeastApart_any x y u v c x' y' u' v' c' W)
    have HLs := Lib.hid (fun W => sLeastApart_any x y u v c x' y' u' v' c' W)
    rw [lapV_eq, ht] at HLi HLs
    simp only [if_true] at HLi HLs
    have hz := Lib.hid (show (apM x y u v x' y' u' v').1 = 0 → xc = true from fun h => by rw [← hx]; exact wc_zero hm.1.1 hm.1.2 h)
    generalize (apM x y u v x' y' u' v').1 = tp at *
    generalize (apM x y u v x' y' u' v').2 = bp at *
    have m1 := HM1.out
    have m2 := HM2.out
    have i0 := m1.c0
    have i1 := m1.c1
    have i2 := m1.c2
    have i3 := m1.c3
    have i4 := m1.c4
    have j0 := m2.c0
    have j1 := m2.c1
    have j2 := m2.c2
    have j3 := m2.c3
    have j4 := m2.c4
    clear HQ5 HX ht hx hm
    as_aux_lemma =>
    go_wp2_with fail
    refine (HWi.out _).mono ?_
    rintro e wx ⟨rfl, hbx⟩
    replace m1 := m1.up hbx
    replace m2 := m2.up hbx
    replace i0 := m1.c0
    replace i1 := m1.c1
    replace i2 := m1.c2
    replace i3 := m1.c3
    replace i4 := m1.c4
    replace j0 := m2.c0
    replace j1 := m2.c1
    replace j2 := m2.c2
    replace j3 := m2.c3
    replace j4 := m2.c4
    go_wp2_with fail
    refine (HLi.out _).mono ?_
    rintro e wy ⟨rfl, hby⟩
    replace m1 := m1.up hby
    replace m2 := m2.up hby
    replace i0 := m1.c0
    replace i1 := m1.c1
    replace i2 := m1.c2
    replace i3 := m1.c3
    replace i4 := m1.c4
    replace j0 := m2.c0
    replace j1 := m2.c1
    replace j2 := m2.c2
    replace j3 := m2.c3
    replace j4 := m2.c4
    go_wp2_with fail
    refine (HLs.out _).mono ?_
    rintro e wz ⟨rfl, hbz⟩
    clear i0 i1 i2 i3 i4 j0 j1 j2 j3 j4
    clear m1 m2
    have hbb := up_trans (up_trans hbx hby) hbz
    go_upto_region 20 with fail
    refine cl_r20 tp xc wz _ _ _ _ _ _ _ _ _ _ _ _ _ _ _ _ _ _ _ _ _ _ _ _ _ _ _ _ _ _ _ _ _ _ _ _ _ _ _ _ _ _ _ _ _ _ _ _ _ _ _ _ _ _ _ _ _ _ _ _ _ _ _ _ _ _ _ _ _ _ _ _ _ _ _ _ _ _ _ _ _ _ _ _ _ _ _ _ _ _ _ _ _ _ _ _ _ _ _ _ _ _ _ _ _ _ _ _ _ _ _ _ _ _ _ _ _ _ _ _ _ _ _ _ _ _ _ _ _ _ _ _ _ _ _ _ _ _ _ _ _ _ _ _ _ _ _ _ _ _ _ _ _ _ _ _ _ _ _ _ _ _ _ _ _ _ _ _ _ _ _ _ _ _ _ _ _ _ _ _ _ _ _ _ _ _ _ _ _ _ _ _ _ _ _ _ _ _ _ _ _ _ _ _ _ _ _ _ _ _ _ _ _ _ _ _ _ _ _ _ _ _ _ _ _ _ _ _ _ _ _ _ _ _ _ _ _ _ _ _ _ _ _ _ _ _ _ _ _ _ _ _ _ _ _ _ _ _ _ _ _ _ _ _ _ _ _ _ _ _ _ _ _ _ _ _ _ _ _ _ _ _ _ _ _ _ _ _ _ _ _ _ _ _ _ _ _ _ _ _ _ _ _ _ _ _ _ _ _ _ _ _ _ _ _ _ _ _ _ _ _ _ _ _ _ _ _ _ _ _ _ _ _ _ _ _ _ _ _ _ _ _ _ _ _ _ _ _ _ _ _ hz.out ?_
    rintro wt u194 u195 u196 u197 u198 u199 u200 u201 u202 u203 u204 u205 u206 u207 u208 u209 u210 u211 u212 u213 u214 u215 u216 u217 u218 u219 u220 hbt
    go_wp2_with fail
    all_goals (first | exact (up_trans hbb hbt) | exact hQ _ _ _ _ _ _ _ _ _ _ _ _ _ _ _ _ _ _ _ _ _ _ _ _ _ _ _ _ _ _ _ _ _ _ _ _ _ _ _ _ _ _ _ _ _ _ _ _ _ _ _ _ _ _ _ _ _ (up_trans hbb hbt))
end Go.Proofs.Ytljdhicmcmppgaa
namespace Go.Proofs.Ytljdhicmcmppgaa
open Go.RowKit Go.ChangeShapes Go.WideShapes Go.Sort

set_option maxRecDepth 100000 in
set_option maxHeartbeats 32000000 in
theorem cl_l28 (a N np bm om cm c22 : Nat) (d : Int) (A22 : Option Addr) (M : Nat → Nat → Int) (S : Nat → Nat → Bool) (w : World)
    (s0 s1 s2 s3 s4 s5 s6 s7 s8 s9 s10 s11 s12 s13 s14 s15 s16 s17 s20 s21 s23 s24 s25 s26 s27 s28 s29 s30 s31 s32 s33 s34 s35 s36 s37 s41 s42 s43 s44 s45 s46 s47 s48 s49 s50 s51 s52 s53 s54 s55 s56 s57 s58 s59 s60 s61 s62 s63 s64 s65 s66 s67 s68 s69 s70 s71 s72 s73 s74 s75 s76 s77 s78 s79 s80 s81 s82 s83 s84 s85 s86 s87 s88 s89 s90 s91 s92 s93 s94 s95 s96 s97 s98 s99 s100 s101 s102 s103 s104 s105 s106 s107 s108 s109 s110 s111 s112 s113 s114 s115 s116 s117 s118 s119 s120 s121 s122 s123 s124 s125 s126 s127 s128 s129 s130 s131 s132 s133 s134 s135 s136 s137 s138 s139 s140 s141 s142 s143 s144 s145 s146 s147 s148 s149 s150 s151 s152 s153 s154 s155 s156 s157 s158 s159 s160 s161 s162 s163 s164 s165 s166 s167 s168 s169 s170 s171 s172 s173 s174 s175 s176 s177 s178 s179 s180 s181 s182 s183 s184 s185 s186 s187 s188 s189 s190 s191 s192 s193 s194 s195 s196 s197 s198 s199 s200 s201 s202 s203 s204 s205 s206 s207 s208 s209 s210 s211 s212 s213 s214 s215 s216 s217 s218 s219 s220 s221 s222 s223 s224 s225 s226 s227 s228 s229 s230 s231 s232 s233 s234 s235 s236 s237 s238 s239 s240 s241 s242 s243 s244 s245 s246 s247 s248 s249 s250 s251 s252 s253 s254 s255 s256 s257 s258 s259 s260 s261 s262 s263 s264 s265 s266 s267 s268 s269 s270 s271 s272 s273 s274 s275 s276 s277 s278 s279 s280 s281 s282 s283 s284 s285 s286 s287 s288 s289 s290 s291 s292 s293 s294 s295 s296 s297 s298 s299 s300 s301 s302 s303 s304 s305 s306 s307 s308 s309 s310 s311 s312 s313 s314 s315 s316 s317 s318 s319 s320 s321 s322 s323 s324 s325 s326 s327 s328 s329 s330 s331 s332 s333 s334 s335 s336 s337 s338 s339 s340 s341 s342 s343 s344 s345 s346 s347 s348 s349 s350 s351 s352 s353 s354 s355 s356 s357 s358 s359 s360 s361 s362 s363 s364 s365 s366 s367 s368 s369 s370 s371 s372 s373 s374 s375 s376 s377 s378 s379 s380 s381 s382 s383 s384 : Value) (Q0 : Exit → Act → World → Prop)
    (ha : a < N) (hN : N ≤ 12) (hnb : np ≤ 144) (HM : Hid (Row5 w bm om N M)) (hnp : Hid ((cpOut S N N).length = np)) (HP : Hid (IRows w (.slice A22 np c22) np (fun _ => 2) (prF (cpOut S N N)))) (HSi : Hid (∀ (i k : Nat) (W : World), i < N → k < N → Calls Try.prog 11 #[mvV (M i), mvV (M k), .int .i64 d] W (Ans W (.tuple #[.bool (S i k), .bool true])))) (HSs : Hid (∀ (i k : Nat) (W : World), i < N → k < N → Calls Try.prog 12 #[mvV (M i), mvV (M k), .int .i64 d] W (Ans W (.tuple #[.bool (S i k), .bool true]))))
    (hQ : ∀ (w' : World) (u4 u40 u41 u42 u43 u44 u230 u231 u232 u233 u234 u235 u236 u237 u238 u239 u240 u241 u242 u243 u244 u245 u246 u247 u248 u249 u250 u251 u252 u253 u254 u255 u256 u257 u258 u259 u260 u261 u262 u263 u264 u265 u266 u267 u268 u269 u270 u271 u272 u273 u274 u275 u276 u277 u278 u279 u280 u281 u282 u283 u284 u285 u286 u287 u288 u289 u290 u291 : Value), Below w.heap.size w w' → Q0 (.exit 2) ⟨#[s0, s1, s2, s3, u4, s5, s6, s7, s8, s9, s10, s11, s12, s13, s14, s15, s16, s17, (.slice (some ⟨bm, om, none⟩) N cm), (.int .i64 d), s20, s21, (.slice A22 np c22), s23, s24, s25, s26, s27, s28, s29, s30, s31, s32, s33, s34, s35, s36, s37, (.int .i64 (((cpIn S a (cpOut S N a) (N - (a + 1))).length : Nat) : Int)), (.int .i64 (a : Int)), u40, u41, u42, u43, u44, s45, s46, s47, s48, s49, s50, s51, s52, s53, s54, s55, s56, s57, s58, s59, s60, s61, s62, s63, s64, s65, s66, s67, s68, s69, s70, s71, s72, s73, s74, s75, s76, s77, s78, s79, s80, s81, s82, s83, s84, s85, s86, s87, s88, s89, s90, s91, s92, s93, s94, s95, s96, s97, s98, s99, s100, s101, s102, s103, s104, s105, s106, s107, s108, s109, s110, s111, s112, s113, s114, s115, s116, s117, s118, s119, s120, s121, s122, s123, s124, s125, s126, s127, s128, s129, s130, s131, s132, s133, s134, s135, s136, s137, s138, s139, s140, s141, s142, s143, s144, s145, s146, s147, s148, s149, s150, s151, s152, s153, s154, s155, s156, s157, s158, s159, s160, s161, s162, s163, s164, s165, s166, s167, s168, s169, s170, s171, s172, s173, s174, s175, s176, s177, s178, s179, s180, s181, s182, s183, s184, s185, s186, s187, s188, s189, s190, s191, s192, s193, s194, s195, s196, s197, s198, s199, s200, s201, s202, s203, s204, s205, s206, s207, s208, s209, s210, s211, s212, s213, s214, s215, s216, s217, s218, s219, s220, s221, s222, s223, s224, s225, s226, s227, s228, s229, u230, u231, u232, u233, u234, u235, u236, u237, u238, u239, u240, u241, u242, u243, u244, u245, u246, u247, u248, u249, u250, u251, u252, u253, u254, u255, u256, u257, u258, u259, u260, u261, u262, u263, u264, u265, u266, u267, u268, u269, u270, u271, u272, u273, u274, u275, u276, u277, u278, u279, u280, u281, u282, u283, u284, u285, u286, u287, u288, u289, u290, u291, s292, s293, s294, s295, s296, s297, s298, s299, s300, s301, s302, s303, s304, s305, s306, s307, s308, s309, s310, s311, s312, s313, s314, s315, s316, s317, s318, s319, s320, s321, s322, s323, s324, s325, s326, s327, s328, s329, s330, s331, s332, s333, s334, s335, s336, s337, s338, s339, s340, s341, s342, s343, s344, s345, s346, s347, s348, s349, s350, s351, s352, s353, s354, s355, s356, s357, s358, s359, s360, s361, s362, s363, s364, s365, s366, s367, s368, s369, s370, s371, s372, s373, s374, s375, s376, s377, s378, s379, s380, s381, s382, s383, s384], []⟩ w') :
    Code.wp Try.prog ((Try.f4.body.bind (findLoop 28)).getD .skip) Q0 ⟨#[s0, s1, s2, s3, s4, s5, s6, s7, s8, s9, s10, s11, s12, s13, s14, s15, s16, s17, (.slice (some ⟨bm, om, none⟩) N cm), (.int .i64 d), s20, s21, (.slice A22 np c22), s23, s24, s25, s26, s27, s28, s29, s30, s31, s32, s33, s34, s35, s36, s37, (.int .i64 (((cpOut S N a).length : Nat) : Int)), (.int .i64 (a : Int)), (.int .i64 ((a + 1 : Nat) : Int)), s41, s42, s43, s44, s45, s46, s47, s48, s49, s50, s51, s52, s53, s54, s55, s56, s57, s58, s59, s60, s61, s62, s63, s64, s65, s66, s67, s68, s69, s70, s71, s72, s73, s74, s75, s76, s77, s78, s79, s80, s81, s82, s83, s84, s85, s86, s87, s88, s89, s90, s91, s92, s93, s94, s95, s96, s97, s98, s99, s100, s101, s102, s103, s104, s105, s106, s107, s108, s109, s110, s111, s112, s113, s114, s115, s116, s117, s118, s119, s120, s121, s122, s123, s124, s125, s126, s127, s128, s129, s130, s131, s132, s133, s134, s135, s136, s137, s138, s139, s140, s141, s142, s143, s144, s145, s146, s147, s148, s149, s150, s151, s152, s153, s154, s155, s156, s157, s158, s159, s160, s161, s162, s163, s164, s165, s166, s167, s168, s169, s170, s171, s172, s173, s174, s175, s176, s177, s178, s179, s180, s181, s182, s183, s184, s185, s186, s187, s188, s189, s190, s191, s192, s193, s194, s195, s196, s197, s198, s199, s200, s201, s202, s203, s204, s205, s206, s207, s208, s209, s210, s211, s212, s213, s214, s215, s216, s217, s218, s219, s220, s221, s222, s223, s224, s225, s226, s227, s228, s229, s230, s231, s232, s233, s234, s235, s236, s237, s238, s239, s240, s241, s242, s243, s244, s245, s246, s247, s248, s249, s250, s251, s252, s253, s254, s255, s256, s257, s258, s259, s260, s261, s262, s263, s264, s265, s266, s267, s268, s269, s270, s271, s272, s273, s274, s275, s276, s277, s278, s279, s280, s281, s282, s283, s284, s285, s286, s287, s288, s289, s290, s291, s292, s293, s294, s295, s296, s297, s298, s299, s300, s301, s302, s303, s304, s305, s306, s307, s308, s309, s310, s311, s312, s313, s314, s315, s316, s317, s318, s319, s320, s321, s322, s323, s324, s325, s326, s327, s328, s329, s330, s331, s332, s333, s334, s335, s336, s337, s338, s339, s340, s341, s342, s343, s344, s345, s346, s347, s348, s349, s350, s351, s352, s353, s354, s355, s356, s357, s358, s359, s360, s361, s362, s363, s364, s365, s366, s367, s368, s369, s370, s371, s372, s373, s374, s375, s376, s377, s378, s379, s380, s381, s382, s383, s384], []⟩ w := by
  conv => arg 2; whnf
  try dsimp only
  go_loopw [38, 40] (fun nn kk wr => ∃ j : Nat, a + 1 + j ≤ N ∧ kk = .int .i64 ((a + 1 + j : Nat) : Int) ∧ nn = .int .i64 (((cpIn S a (cpOut S N a) j).length : Nat) : Int) ∧ Below w.heap.size w wr) (fun _ kk _ => N - (intOf kk).toNat)
  case atStart => exact ⟨0, by omega, rfl, rfl, Below.refl _ _⟩
  case round =>
    obtain ⟨j, hj, rfl, rfl, hbk⟩ := hrel
    obtain ⟨k, hk⟩ : ∃ k, a + 1 + j = k := ⟨_, rfl⟩
    obtain ⟨C, hC⟩ : ∃ C, cpIn S a (cpOut S N a) j = C := ⟨_, rfl⟩
    have HK := Lib.hid hk
    have HC := Lib.hid hC
    rw [hk, hC]
    by_cases hlt : k < N
    · have hnx := cp_next (S := S) (n := N) (a := a) (j := j) (by omega) (by omega)
      rw [hk, hC, hnp.out] at hnx
      have hst : cpIn S a (cpOut S N a) (j + 1) = cpStep S a k C := by rw [← hk, ← hC]; rfl
      have HNX := Lib.hid hnx
      have HST := Lib.hid hst
      have hcl : C.length ≤ np := by rw [← hC, ← hnp.out]; obtain ⟨t1, e1⟩ := cpIn_more S a (cpOut S N a) j (N - (a + 1) - j); obtain ⟨t2, e2⟩ := cpOut_more S N (a + 1) (N - (a + 1)); rw [show a + 1 + (N - (a + 1)) = N by omega] at e2; rw [show j + (N - (a + 1) - j) = N - (a + 1) by omega] at e1; rw [e2, show cpOut S N (a + 1) = cpIn S a (cpOut S N a) (N - (a + 1)) from rfl, e1]; simp
      have ha : a < N := by omega
      have hks : Hid (k = a + 1 + j) := Lib.hid hk.symm
      clear hk hC hnx hst hj
      have jk : (k : Int) < (N : Int) := by omega
      have ja : (a : Int) < (N : Int) := by omega
      have HSa := Lib.hid (fun W => HSi.out a k W ha hlt)
      have HSb := Lib.hid (fun W => HSs.out a k W ha hlt)
      obtain ⟨s, hs⟩ : ∃ s, S a k = s := ⟨_, rfl⟩
      rw [hs] at HSa HSb
      have HSQ := Lib.hid hs
      clear hs
      as_aux_lemma =>
      go_upto_region 30 with fail
      refine cl_r30 a k N bm om cm M d s wr _ _ _ _ _ _ _ _ _ _ _ _ _ _ _ _ _ _ _ _ _ _ _ _ _ _ _ _ _ _ _ _ _ _ _ _ _ _ _ _ _ _ _ _ _ _ _ _ _ _ _ _ _ _ _ _ _ _ _ _ _ _ _ _ _ _ _ _ _ _ _ _ _ _ _ _ _ _ _ _ _ _ _ _ _ _ _ _ _ _ _ _ _ _ _ _ _ _ _ _ _ _ _ _ _ _ _ _ _ _ _ _ _ _ _ _ _ _ _ _ _ _ _ _ _ _ _ _ _ _ _ _ _ _ _ _ _ _ _ _ _ _ _ _ _ _ _ _ _ _ _ _ _ _ _ _ _ _ _ _ _ _ _ _ _ _ _ _ _ _ _ _ _ _ _ _ _ _ _ _ _ _ _ _ _ _ _ _ _ _ _ _ _ _ _ _ _ _ _ _ _ _ _ _ _ _ _ _ _ _ _ _ _ _ _ _ _ _ _ _ _ _ _ _ _ _ _ _ _ _ _ _ _ _ _ _ _ _ _ _ _ _ _ _ _ _ _ _ _ _ _ _ _ _ _ _ _ _ _ _ _ _ _ _ _ _ _ _ _ _ _ _ _ _ _ _ _ _ _ _ _ _ _ _ _ _ _ _ _ _ _ _ _ _ _ _ _ _ _ _ _ _ _ _ _ _ _ _ _ _ _ _ _ _ _ _ _ _ _ _ _ _ _ _ _ _ _ _ _ _ _ _ _ _ _ _ _ _ _ _ _ _ _ _ _ _ _ _ _ _ _ _ _ _ _ _ _ _ _ _ _ _ _ _ _ _ _ _ _ _ _ _ _ _ _ _ _ _ _ _ _ _ ja jk ((HM.out a ha).up hbk) ((HM.out k hlt).up hbk) HSa ?_
      rintro wx u236 u237 u238 u239 u240 u241 u242 u243 u244 u245 u246 u247 u248 hbx
      have hbkx := up_trans hbk hbx
      go_upto_region 31 with fail
      refine cl_r31 a k N bm om cm M d s wx _ _ _ _ _ _ _ _ _ _ _ _ _ _ _ _ _ _ _ _ _ _ _ _ _ _ _ _ _ _ _ _ _ _ _ _ _ _ _ _ _ _ _ _ _ _ _ _ _ _ _ _ _ _ _ _ _ _ _ _ _ _ _ _ _ _ _ _ _ _ _ _ _ _ _ _ _ _ _ _ _ _ _ _ _ _ _ _ _ _ _ _ _ _ _ _ _ _ _ _ _ _ _ _ _ _ _ _ _ _ _ _ _ _ _ _ _ _ _ _ _ _ _ _ _ _ _ _ _ _ _ _ _ _ _ _ _ _ _ _ _ _ _ _ _ _ _ _ _ _ _ _ _ _ _ _ _ _ _ _ _ _ _ _ _ _ _ _ _ _ _ _ _ _ _ _ _ _ _ _ _ _ _ _ _ _ _ _ _ _ _ _ _ _ _ _ _ _ _ _ _ _ _ _ _ _ _ _ _ _ _ _ _ _ _ _ _ _ _ _ _ _ _ _ _ _ _ _ _ _ _ _ _ _ _ _ _ _ _ _ _ _ _ _ _ _ _ _ _ _ _ _ _ _ _ _ _ _ _ _ _ _ _ _ _ _ _ _ _ _ _ _ _ _ _ _ _ _ _ _ _ _ _ _ _ _ _ _ _ _ _ _ _ _ _ _ _ _ _ _ _ _ _ _ _ _ _ _ _ _ _ _ _ _ _ _ _ _ _ _ _ _ _ _ _ _ _ _ _ _ _ _ _ _ _ _ _ _ _ _ _ _ _ _ _ _ _ _ _ _ _ _ _ _ _ _ _ _ _ _ _ _ _ _ _ _ _ _ _ _ _ _ _ _ _ _ _ _ _ _ _ _ ja jk ((HM.out a ha).up hbkx) ((HM.out k hlt).up hbkx) HSb ?_
      rintro wy u249 u250 u251 u252 u253 u254 u255 u256 u257 u258 u259 u260 u261 hby
      have hbky := up_trans hbkx hby
      clear HSa HSb
      cases s with
      | true =>
        as_aux_lemma =>
        go_wp2_with fail
        go_roundw
        case rel => exact ⟨j + 1, by have := hks.out; omega, by have := hks.out; (rw [show ((a + 1 + (j + 1) : Nat) : Int) = (k : Int) + 1 by omega]), by rw [HST.out]; unfold cpStep; rw [HSQ.out]; rfl, hbky⟩
        case measure => simp [intOf]; omega
      | false =>
        obtain ⟨hcn, hat⟩ := HNX.out HSQ.out
        obtain ⟨q0, q1⟩ := prF_at hat
        have jc : ¬ (C.length : Int) ≥ (np : Int) := by omega
        have jc2 : (C.length : Int) < (np : Int) := by omega
        have HPy := HP.out.up hbky
        obtain ⟨A9, c9, V, e9, _, hrow, hf⟩ := HPy
        injection e9 with e1 _ e2
        subst e1
        subst e2
        obtain ⟨bp, op, rfl, hrv⟩ := hrow (by omega)
        have hv := hf _ hcn
        have hvc := hrv _ hcn
        obtain ⟨A8, c8, e8, hc8, hr8⟩ := hv
        have HV8 := Lib.hid (show Ints wy (.slice A8 2 c8) 2 (prF (cpOut S N N) C.length) from ⟨A8, c8, rfl, hc8, hr8⟩)
        rw [e8] at hvc
        have hlen : Hid ((cpStep S a k C).length = C.length + 1) := Lib.hid (by unfold cpStep; rw [HSQ.out]; simp)
        obtain ⟨CL, hCL⟩ : ∃ CL, C.length = CL := ⟨_, rfl⟩
        rw [hCL] at q0 q1 HV8 hvc jc jc2 hlen hcn
        rw [hCL]
        have HQ0 := Lib.hid q0
        have HQ1 := Lib.hid q1
        clear hrow hf hrv hr8 e8 q0 q1 hat hCL hcl HNX
        as_aux_lemma =>
        go_wp2_with fail
        refine (qInts_g _ _ 2 (prF (cpOut S N N) CL) _ (HV8.out.up (below_alloc _ _)) ⟨_, 2, rfl, Nat.le_refl _, fun _ => ⟨_, 0, rfl, fun i hi => ?_⟩⟩ (by omega)).mono ?_
        · match i, hi with
          | 0, _ => rw [HQ0.out]; simp [go_sem]
          | 1, _ => rw [HQ1.out]; simp [go_sem]
          | (t + 2), hi => omega
        rintro e wz ⟨rfl, hbz⟩
        go_wp2_with fail
        go_roundw
        case rel => exact ⟨j + 1, by have := hks.out; omega, by have := hks.out; (rw [show ((a + 1 + (j + 1) : Nat) : Int) = (k : Int) + 1 by omega]), by rw [HST.out, hlen.out]; go_num, up_trans hbky (up_trans (below_alloc _ _) hbz)⟩
        case measure => simp [intOf]; omega
    · have hkN : k = N := by omega
      have hjj : j = N - (a + 1) := by have := hk; omega
      subst hjj
      subst hkN
      have hE : Hid ((cpIn S a (cpOut S k a) (k - (a + 1))).length = C.length) := Lib.hid (by rw [hC])
      rw [hE.out] at hQ
      clear hk hC
      go_wp2_with fail
      all_goals (first | exact hbk | exact hQ _ _ _ _ _ _ _ _ _ _ _ _ _ _ _ _ _ _ _ _ _ _ _ _ _ _ _ _ _ _ _ _ _ _ _ _ _ _ _ _ _ _ _ _ _ _ _ _ _ _ _ _ _ _ _ _ _ _ _ _ _ _ _ _ _ _ _ _ _ hbk)
end Go.Proofs.Ytljdhicmcmppgaa
namespace Go.Proofs.Ytljdhicmcmppgaa
open Go.RowKit Go.ChangeShapes Go.WideShapes Go.Sort

set_option maxRecDepth 100000 in
set_option maxHeartbeats 32000000 in
theorem cl_l25 (N np bm om cm c22 : Nat) (d : Int) (A22 : Option Addr) (M : Nat → Nat → Int) (S : Nat → Nat → Bool) (w : World)
    (s0 s1 s2 s3 s4 s5 s6 s7 s8 s9 s10 s11 s12 s13 s14 s15 s16 s17 s20 s21 s23 s24 s25 s26 s27 s28 s29 s30 s31 s32 s33 s34 s35 s36 s37 s39 s40 s41 s42 s43 s44 s45 s46 s47 s48 s49 s50 s51 s52 s53 s54 s55 s56 s57 s58 s59 s60 s61 s62 s63 s64 s65 s66 s67 s68 s69 s70 s71 s72 s73 s74 s75 s76 s77 s78 s79 s80 s81 s82 s83 s84 s85 s86 s87 s88 s89 s90 s91 s92 s93 s94 s95 s96 s97 s98 s99 s100 s101 s102 s103 s104 s105 s106 s107 s108 s109 s110 s111 s112 s113 s114 s115 s116 s117 s118 s119 s120 s121 s122 s123 s124 s125 s126 s127 s128 s129 s130 s131 s132 s133 s134 s135 s136 s137 s138 s139 s140 s141 s142 s143 s144 s145 s146 s147 s148 s149 s150 s151 s152 s153 s154 s155 s156 s157 s158 s159 s160 s161 s162 s163 s164 s165 s166 s167 s168 s169 s170 s171 s172 s173 s174 s175 s176 s177 s178 s179 s180 s181 s182 s183 s184 s185 s186 s187 s188 s189 s190 s191 s192 s193 s194 s195 s196 s197 s198 s199 s200 s201 s202 s203 s204 s205 s206 s207 s208 s209 s210 s211 s212 s213 s214 s215 s216 s217 s218 s219 s220 s221 s222 s223 s226 s227 s228 s229 s230 s231 s232 s233 s234 s235 s236 s237 s238 s239 s240 s241 s242 s243 s244 s245 s246 s247 s248 s249 s250 s251 s252 s253 s254 s255 s256 s257 s258 s259 s260 s261 s262 s263 s264 s265 s266 s267 s268 s269 s270 s271 s272 s273 s274 s275 s276 s277 s278 s279 s280 s281 s282 s283 s284 s285 s286 s287 s288 s289 s290 s291 s292 s293 s294 s295 s296 s297 s298 s299 s300 s301 s302 s303 s304 s305 s306 s307 s308 s309 s310 s311 s312 s313 s314 s315 s316 s317 s318 s319 s320 s321 s322 s323 s324 s325 s326 s327 s328 s329 s330 s331 s332 s333 s334 s335 s336 s337 s338 s339 s340 s341 s342 s343 s344 s345 s346 s347 s348 s349 s350 s351 s352 s353 s354 s355 s356 s357 s358 s359 s360 s361 s362 s363 s364 s365 s366 s367 s368 s369 s370 s371 s372 s373 s374 s375 s376 s377 s378 s379 s380 s381 s382 s383 s384 : Value) (Q0 : Exit → Act → World → Prop)
    (hN : N ≤ 12) (hnb : np ≤ 144) (HM : Hid (Row5 w bm om N M)) (hnp : Hid ((cpOut S N N).length = np)) (HP : Hid (IRows w (.slice A22 np c22) np (fun _ => 2) (prF (cpOut S N N)))) (HSi : Hid (∀ (i k : Nat) (W : World), i < N → k < N → Calls Try.prog 11 #[mvV (M i), mvV (M k), .int .i64 d] W (Ans W (.tuple #[.bool (S i k), .bool true])))) (HSs : Hid (∀ (i k : Nat) (W : World), i < N → k < N → Calls Try.prog 12 #[mvV (M i), mvV (M k), .int .i64 d] W (Ans W (.tuple #[.bool (S i k), .bool true]))))
    (hQ : ∀ (w' : World) (u4 u39 u40 u41 u42 u43 u44 u225 u226 u227 u228 u229 u230 u231 u232 u233 u234 u235 u236 u237 u238 u239 u240 u241 u242 u243 u244 u245 u246 u247 u248 u249 u250 u251 u252 u253 u254 u255 u256 u257 u258 u259 u260 u261 u262 u263 u264 u265 u266 u267 u268 u269 u270 u271 u272 u273 u274 u275 u276 u277 u278 u279 u280 u281 u282 u283 u284 u285 u286 u287 u288 u289 u290 u291 u292 : Value), Below w.heap.size w w' → Q0 (.exit 0) ⟨#[s0, s1, s2, s3, u4, s5, s6, s7, s8, s9, s10, s11, s12, s13, s14, s15, s16, s17, (.slice (some ⟨bm, om, none⟩) N cm), (.int .i64 d), s20, s21, (.slice A22 np c22), s23, s24, s25, s26, s27, s28, s29, s30, s31, s32, s33, s34, s35, s36, s37, (.int .i64 (np : Int)), u39, u40, u41, u42, u43, u44, s45, s46, s47, s48, s49, s50, s51, s52, s53, s54, s55, s56, s57, s58, s59, s60, s61, s62, s63, s64, s65, s66, s67, s68, s69, s70, s71, s72, s73, s74, s75, s76, s77, s78, s79, s80, s81, s82, s83, s84, s85, s86, s87, s88, s89, s90, s91, s92, s93, s94, s95, s96, s97, s98, s99, s100, s101, s102, s103, s104, s105, s106, s107, s108, s109, s110, s111, s112, s113, s114, s115, s116, s117, s118, s119, s120, s121, s122, s123, s124, s125, s126, s127, s128, s129, s130, s131, s132, s133, s134, s135, s136, s137, s138, s139, s140, s141, s142, s143, s144, s145, s146, s147, s148, s149, s150, s151, s152, s153, s154, s155, s156, s157, s158, s159, s160, s161, s162, s163, s164, s165, s166, s167, s168, s169, s170, s171, s172, s173, s174, s175, s176, s177, s178, s179, s180, s181, s182, s183, s184, s185, s186, s187, s188, s189, s190, s191, s192, s193, s194, s195, s196, s197, s198, s199, s200, s201, s202, s203, s204, s205, s206, s207, s208, s209, s210, s211, s212, s213, s214, s215, s216, s217, s218, s219, s220, s221, s222, s223, (.int .i64 (N : Int)), u225, u226, u227, u228, u229, u230, u231, u232, u233, u234, u235, u236, u237, u238, u239, u240, u241, u242, u243, u244, u245, u246, u247, u248, u249, u250, u251, u252, u253, u254, u255, u256, u257, u258, u259, u260, u261, u262, u263, u264, u265, u266, u267, u268, u269, u270, u271, u272, u273, u274, u275, u276, u277, u278, u279, u280, u281, u282, u283, u284, u285, u286, u287, u288, u289, u290, u291, u292, s293, s294, s295, s296, s297, s298, s299, s300, s301, s302, s303, s304, s305, s306, s307, s308, s309, s310, s311, s312, s313, s314, s315, s316, s317, s318, s319, s320, s321, s322, s323, s324, s325, s326, s327, s328, s329, s330, s331, s332, s333, s334, s335, s336, s337, s338, s339, s340, s341, s342, s343, s344, s345, s346, s347, s348, s349, s350, s351, s352, s353, s354, s355, s356, s357, s358, s359, s360, s361, s362, s363, s364, s365, s366, s367, s368, s369, s370, s371, s372, s373, s374, s375, s376, s377, s378, s379, s380, s381, s382, s383, s384], []⟩ w') :
    Code.wp Try.prog ((Try.f4.body.bind (findLoop 25)).getD .skip) Q0 ⟨#[s0, s1, s2, s3, s4, s5, s6, s7, s8, s9, s10, s11, s12, s13, s14, s15, s16, s17, (.slice (some ⟨bm, om, none⟩) N cm), (.int .i64 d), s20, s21, (.slice A22 np c22), s23, s24, s25, s26, s27, s28, s29, s30, s31, s32, s33, s34, s35, s36, s37, (.int .i64 ((0 : Nat) : Int)), s39, s40, s41, s42, s43, s44, s45, s46, s47, s48, s49, s50, s51, s52, s53, s54, s55, s56, s57, s58, s59, s60, s61, s62, s63, s64, s65, s66, s67, s68, s69, s70, s71, s72, s73, s74, s75, s76, s77, s78, s79, s80, s81, s82, s83, s84, s85, s86, s87, s88, s89, s90, s91, s92, s93, s94, s95, s96, s97, s98, s99, s100, s101, s102, s103, s104, s105, s106, s107, s108, s109, s110, s111, s112, s113, s114, s115, s116, s117, s118, s119, s120, s121, s122, s123, s124, s125, s126, s127, s128, s129, s130, s131, s132, s133, s134, s135, s136, s137, s138, s139, s140, s141, s142, s143, s144, s145, s146, s147, s148, s149, s150, s151, s152, s153, s154, s155, s156, s157, s158, s159, s160, s161, s162, s163, s164, s165, s166, s167, s168, s169, s170, s171, s172, s173, s174, s175, s176, s177, s178, s179, s180, s181, s182, s183, s184, s185, s186, s187, s188, s189, s190, s191, s192, s193, s194, s195, s196, s197, s198, s199, s200, s201, s202, s203, s204, s205, s206, s207, s208, s209, s210, s211, s212, s213, s214, s215, s216, s217, s218, s219, s220, s221, s222, s223, (.int .i64 (N : Int)), (.int .i64 ((0 : Nat) : Int)), s226, s227, s228, s229, s230, s231, s232, s233, s234, s235, s236, s237, s238, s239, s240, s241, s242, s243, s244, s245, s246, s247, s248, s249, s250, s251, s252, s253, s254, s255, s256, s257, s258, s259, s260, s261, s262, s263, s264, s265, s266, s267, s268, s269, s270, s271, s272, s273, s274, s275, s276, s277, s278, s279, s280, s281, s282, s283, s284, s285, s286, s287, s288, s289, s290, s291, s292, s293, s294, s295, s296, s297, s298, s299, s300, s301, s302, s303, s304, s305, s306, s307, s308, s309, s310, s311, s312, s313, s314, s315, s316, s317, s318, s319, s320, s321, s322, s323, s324, s325, s326, s327, s328, s329, s330, s331, s332, s333, s334, s335, s336, s337, s338, s339, s340, s341, s342, s343, s344, s345, s346, s347, s348, s349, s350, s351, s352, s353, s354, s355, s356, s357, s358, s359, s360, s361, s362, s363, s364, s365, s366, s367, s368, s369, s370, s371, s372, s373, s374, s375, s376, s377, s378, s379, s380, s381, s382, s383, s384], []⟩ w := by
  conv => arg 2; whnf
  try dsimp only
  go_loopw [38, 225] (fun nn ii wr => ∃ a : Nat, a ≤ N ∧ ii = .int .i64 (a : Int) ∧ nn = .int .i64 (((cpOut S N a).length : Nat) : Int) ∧ Below w.heap.size w wr) (fun _ ii _ => N - (intOf ii).toNat)
  case atStart => exact ⟨0, by omega, rfl, rfl, Below.refl _ _⟩
  case round =>
    obtain ⟨a, ha, rfl, rfl, hbk⟩ := hrel
    by_cases hlt : a < N
    · have ja : (a : Int) < (N : Int) := by omega
      have HMa := Lib.hid (HM.out.up hbk)
      have HPa := Lib.hid (HP.out.up hbk)
      as_aux_lemma =>
      go_wp2_with fail
      refine cl_l28 a N np bm om cm c22 d A22 M S wr _ _ _ _ _ _ _ _ _ _ _ _ _ _ _ _ _ _ _ _ _ _ _ _ _ _ _ _ _ _ _ _ _ _ _ _ _ _ _ _ _ _ _ _ _ _ _ _ _ _ _ _ _ _ _ _ _ _ _ _ _ _ _ _ _ _ _ _ _ _ _ _ _ _ _ _ _ _ _ _ _ _ _ _ _ _ _ _ _ _ _ _ _ _ _ _ _ _ _ _ _ _ _ _ _ _ _ _ _ _ _ _ _ _ _ _ _ _ _ _ _ _ _ _ _ _ _ _ _ _ _ _ _ _ _ _ _ _ _ _ _ _ _ _ _ _ _ _ _ _ _ _ _ _ _ _ _ _ _ _ _ _ _ _ _ _ _ _ _ _ _ _ _ _ _ _ _ _ _ _ _ _ _ _ _ _ _ _ _ _ _ _ _ _ _ _ _ _ _ _ _ _ _ _ _ _ _ _ _ _ _ _ _ _ _ _ _ _ _ _ _ _ _ _ _ _ _ _ _ _ _ _ _ _ _ _ _ _ _ _ _ _ _ _ _ _ _ _ _ _ _ _ _ _ _ _ _ _ _ _ _ _ _ _ _ _ _ _ _ _ _ _ _ _ _ _ _ _ _ _ _ _ _ _ _ _ _ _ _ _ _ _ _ _ _ _ _ _ _ _ _ _ _ _ _ _ _ _ _ _ _ _ _ _ _ _ _ _ _ _ _ _ _ _ _ _ _ _ _ _ _ _ _ _ _ _ _ _ _ _ _ _ _ _ _ _ _ _ _ _ _ _ _ _ _ _ _ _ _ _ _ _ _ _ _ _ _ _ _ _ _ _ _ _ _ _ _ _ _ _ hlt hN hnb HMa hnp HPa HSi HSs ?_
      rintro wx u4 u40 u41 u42 u43 u44 u230 u231 u232 u233 u234 u235 u236 u237 u238 u239 u240 u241 u242 u243 u244 u245 u246 u247 u248 u249 u250 u251 u252 u253 u254 u255 u256 u257 u258 u259 u260 u261 u262 u263 u264 u265 u266 u267 u268 u269 u270 u271 u272 u273 u274 u275 u276 u277 u278 u279 u280 u281 u282 u283 u284 u285 u286 u287 u288 u289 u290 u291 hbx
      as_aux_lemma =>
      go_wp2_with fail
      go_roundw
      case rel => exact ⟨a + 1, by omega, by go_num, rfl, up_trans hbk hbx⟩
      case measure => simp [intOf]; omega
    · have e : a = N := by omega
      subst e
      rw [hnp.out]
      go_wp2_with fail
      all_goals (first | exact hbk | exact hQ _ _ _ _ _ _ _ _ _ _ _ _ _ _ _ _ _ _ _ _ _ _ _ _ _ _ _ _ _ _ _ _ _ _ _ _ _ _ _ _ _ _ _ _ _ _ _ _ _ _ _ _ _ _ _ _ _ _ _ _ _ _ _ _ _ _ _ _ _ _ _ _ _ _ _ _ hbk)
end Go.Proofs.Ytljdhicmcmppgaa
namespace Go.Proofs.Ytljdhicmcmppgaa
open Go.RowKit Go.ChangeShapes Go.WideShapes Go.Sort

set_option maxRecDepth 100000 in
set_option maxHeartbeats 32000000 in
theorem cl_if222 (N np c18 c22 : Nat) (d : Int) (q3 : Bool) (A18 A22 : Option Addr) (M : Nat → Nat → Int) (w : World)
    (s0 s1 s2 s3 s4 s5 s6 s7 s8 s9 s10 s11 s12 s13 s14 s15 s16 s17 s20 s21 s23 s24 s25 s26 s27 s28 s29 s30 s31 s32 s33 s34 s35 s36 s37 s45 s46 s47 s48 s49 s50 s51 s52 s53 s54 s55 s56 s57 s58 s59 s60 s61 s62 s63 s64 s65 s66 s67 s68 s69 s70 s71 s72 s73 s74 s75 s76 s77 s78 s79 s80 s81 s82 s83 s84 s85 s86 s87 s88 s89 s90 s91 s92 s93 s94 s95 s96 s97 s98 s99 s100 s101 s102 s103 s104 s105 s106 s107 s108 s109 s110 s111 s112 s113 s114 s115 s116 s117 s118 s119 s120 s121 s122 s123 s124 s125 s126 s127 s128 s129 s130 s131 s132 s133 s134 s135 s136 s137 s138 s139 s140 s141 s142 s143 s144 s145 s146 s147 s148 s149 s150 s151 s152 s153 s154 s155 s156 s157 s158 s159 s160 s161 s162 s163 s164 s165 s166 s167 s168 s169 s170 s171 s172 s173 s174 s175 s176 s177 s178 s179 s180 s181 s182 s183 s184 s185 s186 s187 s188 s189 s190 s191 s192 s193 s194 s195 s196 s197 s198 s199 s200 s201 s202 s203 s204 s205 s206 s207 s208 s209 s210 s211 s212 s213 s214 s215 s216 s217 s218 s219 s220 s221 s297 s298 s299 s300 s301 s302 s303 s304 s305 s306 s307 s308 s309 s310 s311 s312 s313 s314 s315 s316 s317 s318 s319 s320 s321 s322 s323 s324 s325 s326 s327 s328 s329 s330 s331 s332 s333 s334 s335 s336 s337 s338 s339 s340 s341 s342 s343 s344 s345 s346 s347 s348 s349 s350 s351 s352 s353 s354 s355 s356 s357 s358 s359 s360 s361 s362 s363 s364 s365 s366 s367 s368 s369 s370 s371 s372 s373 s374 s375 s376 s377 s378 s379 s380 s381 s382 s383 s384 : Value) (Q0 : Exit → Act → World → Prop)
    (HCV : Hid (cvOk N M d = q3)) (HM : Hid (Moves w (.slice A18 N c18) N M)) (HNP : Hid ((cvL N M d).length = np)) (HP : Hid (IRows w (.slice A22 np c22) np (fun _ => 2) (prF (cvL N M d))))
    (hQ : ∀ (w' : World) (u4 u38 u39 u40 u41 u42 u43 u44 u223 u224 u225 u226 u227 u228 u229 u230 u231 u232 u233 u234 u235 u236 u237 u238 u239 u240 u241 u242 u243 u244 u245 u246 u247 u248 u249 u250 u251 u252 u253 u254 u255 u256 u257 u258 u259 u260 u261 u262 u263 u264 u265 u266 u267 u268 u269 u270 u271 u272 u273 u274 u275 u276 u277 u278 u279 u280 u281 u282 u283 u284 u285 u286 u287 u288 u289 u290 u291 u292 u293 u294 u295 u296 : Value), Below w.heap.size w w' → Q0 (.normal) ⟨#[s0, s1, s2, s3, u4, s5, s6, s7, s8, s9, s10, s11, s12, s13, s14, s15, s16, s17, (.slice A18 N c18), (.int .i64 d), s20, s21, (.slice A22 np c22), s23, s24, s25, s26, s27, s28, s29, s30, s31, s32, s33, s34, s35, s36, s37, u38, u39, u40, u41, u42, u43, u44, s45, s46, s47, s48, s49, s50, s51, s52, s53, s54, s55, s56, s57, s58, s59, s60, s61, s62, s63, s64, s65, s66, s67, s68, s69, s70, s71, s72, s73, s74, s75, s76, s77, s78, s79, s80, s81, s82, s83, s84, s85, s86, s87, s88, s89, s90, s91, s92, s93, s94, s95, s96, s97, s98, s99, s100, s101, s102, s103, s104, s105, s106, s107, s108, s109, s110, s111, s112, s113, s114, s115, s116, s117, s118, s119, s120, s121, s122, s123, s124, s125, s126, s127, s128, s129, s130, s131, s132, s133, s134, s135, s136, s137, s138, s139, s140, s141, s142, s143, s144, s145, s146, s147, s148, s149, s150, s151, s152, s153, s154, s155, s156, s157, s158, s159, s160, s161, s162, s163, s164, s165, s166, s167, s168, s169, s170, s171, s172, s173, s174, s175, s176, s177, s178, s179, s180, s181, s182, s183, s184, s185, s186, s187, s188, s189, s190, s191, s192, s193, s194, s195, s196, s197, s198, s199, s200, s201, s202, s203, s204, s205, s206, s207, s208, s209, s210, s211, s212, s213, s214, s215, s216, s217, s218, s219, s220, s221, (.bool q3), u223, u224, u225, u226, u227, u228, u229, u230, u231, u232, u233, u234, u235, u236, u237, u238, u239, u240, u241, u242, u243, u244, u245, u246, u247, u248, u249, u250, u251, u252, u253, u254, u255, u256, u257, u258, u259, u260, u261, u262, u263, u264, u265, u266, u267, u268, u269, u270, u271, u272, u273, u274, u275, u276, u277, u278, u279, u280, u281, u282, u283, u284, u285, u286, u287, u288, u289, u290, u291, u292, u293, u294, u295, u296, s297, s298, s299, s300, s301, s302, s303, s304, s305, s306, s307, s308, s309, s310, s311, s312, s313, s314, s315, s316, s317, s318, s319, s320, s321, s322, s323, s324, s325, s326, s327, s328, s329, s330, s331, s332, s333, s334, s335, s336, s337, s338, s339, s340, s341, s342, s343, s344, s345, s346, s347, s348, s349, s350, s351, s352, s353, s354, s355, s356, s357, s358, s359, s360, s361, s362, s363, s364, s365, s366, s367, s368, s369, s370, s371, s372, s373, s374, s375, s376, s377, s378, s379, s380, s381, s382, s383, s384], []⟩ w') :
    Code.wp Try.prog ((Try.f4.body.bind (findIf 222)).getD .skip) Q0 ⟨#[s0, s1, s2, s3, s4, s5, s6, s7, s8, s9, s10, s11, s12, s13, s14, s15, s16, s17, (.slice A18 N c18), (.int .i64 d), s20, s21, (.slice A22 np c22), s23, s24, s25, s26, s27, s28, s29, s30, s31, s32, s33, s34, s35, s36, s37, undef, undef, undef, undef, undef, undef, undef, s45, s46, s47, s48, s49, s50, s51, s52, s53, s54, s55, s56, s57, s58, s59, s60, s61, s62, s63, s64, s65, s66, s67, s68, s69, s70, s71, s72, s73, s74, s75, s76, s77, s78, s79, s80, s81, s82, s83, s84, s85, s86, s87, s88, s89, s90, s91, s92, s93, s94, s95, s96, s97, s98, s99, s100, s101, s102, s103, s104, s105, s106, s107, s108, s109, s110, s111, s112, s113, s114, s115, s116, s117, s118, s119, s120, s121, s122, s123, s124, s125, s126, s127, s128, s129, s130, s131, s132, s133, s134, s135, s136, s137, s138, s139, s140, s141, s142, s143, s144, s145, s146, s147, s148, s149, s150, s151, s152, s153, s154, s155, s156, s157, s158, s159, s160, s161, s162, s163, s164, s165, s166, s167, s168, s169, s170, s171, s172, s173, s174, s175, s176, s177, s178, s179, s180, s181, s182, s183, s184, s185, s186, s187, s188, s189, s190, s191, s192, s193, s194, s195, s196, s197, s198, s199, s200, s201, s202, s203, s204, s205, s206, s207, s208, s209, s210, s211, s212, s213, s214, s215, s216, s217, s218, s219, s220, s221, (.bool q3), undef, undef, undef, undef, undef, undef, undef, undef, undef, undef, undef, undef, undef, undef, undef, undef, undef, undef, undef, undef, undef, undef, undef, undef, undef, undef, undef, undef, undef, undef, undef, undef, undef, undef, undef, undef, undef, undef, undef, undef, undef, undef, undef, undef, undef, undef, undef, undef, undef, undef, undef, undef, undef, undef, undef, undef, undef, undef, undef, undef, undef, undef, undef, undef, undef, undef, undef, undef, undef, undef, undef, undef, undef, undef, s297, s298, s299, s300, s301, s302, s303, s304, s305, s306, s307, s308, s309, s310, s311, s312, s313, s314, s315, s316, s317, s318, s319, s320, s321, s322, s323, s324, s325, s326, s327, s328, s329, s330, s331, s332, s333, s334, s335, s336, s337, s338, s339, s340, s341, s342, s343, s344, s345, s346, s347, s348, s349, s350, s351, s352, s353, s354, s355, s356, s357, s358, s359, s360, s361, s362, s363, s364, s365, s366, s367, s368, s369, s370, s371, s372, s373, s374, s375, s376, s377, s378, s379, s380, s381, s382, s383, s384], []⟩ w := by
  conv => arg 2; whnf
  try dsimp only
  cases q3 with
  | false =>
    go_wp2_with fail
    all_goals (first | exact (Below.refl _ _) | exact hQ _ _ _ _ _ _ _ _ _ _ _ _ _ _ _ _ _ _ _ _ _ _ _ _ _ _ _ _ _ _ _ _ _ _ _ _ _ _ _ _ _ _ _ _ _ _ _ _ _ _ _ _ _ _ _ _ _ _ _ _ _ _ _ _ _ _ _ _ _ _ _ _ _ _ _ _ _ _ _ _ _ _ _ (Below.refl _ _))
  | true =>
    have CV := cv_facts HCV.out
    have hall := CV.all
    have hnp := HNP.out
    have hnb := cvL_len N M d
    rw [hnp] at hnb
    rw [CV.eq] at hnp
    have hP := HP.out
    rw [CV.eq] at hP
    have hHP := Lib.hid hP
    have hHN := Lib.hid hnp
    have hn2 := (tgL_iff (Bool.and_eq_true _ _ ▸ HCV.out : (tgL N M = true ∧ inB d 0 80 = true)).1).1.1
    obtain ⟨A9, c9, e9, _, hrow⟩ := HM.out
    injection e9 with e1 _ e2
    subst e1
    subst e2
    obtain ⟨bm, om, rfl, hR⟩ := hrow (by omega)
    have HR := Lib.hid hR
    have HSi := Lib.hid (fun (i k : Nat) (W : World) (hi : i < N) (hk : k < N) => (show Calls Try.prog 11 #[mvV (M i), mvV (M k), .int .i64 d] W (Ans W (.tuple #[.bool (mmS M d i k), .bool true])) by
      have h := iStayApart_any (M i 0) (M i 1) (M i 2) (M i 3) (M i 4) (M k 0) (M k 1) (M k 2) (M k 3) (M k 4) d W
      unfold saV at h
      rw [hall i k hi hk, Bool.true_and] at h
      exact h))
    have HSs := Lib.hid (fun (i k : Nat) (W : World) (hi : i < N) (hk : k < N) => (show Calls Try.prog 12 #[mvV (M i), mvV (M k), .int .i64 d] W (Ans W (.tuple #[.bool (mmS M d i k), .bool true])) by
      have h := sStayApart_any (M i 0) (M i 1) (M i 2) (M i 3) (M i 4) (M k 0) (M k 1) (M k 2) (M k 3) (M k 4) d W
      unfold saV at h
      rw [hall i k hi hk, Bool.true_and] at h
      exact h))
    have hN12 := CV.n12
    clear hall hP hnp hrow hR HP HNP HM HCV CV
    as_aux_lemma =>
    go_wp2_with fail
    refine cl_l25 N np bm om _ c22 d A22 M (mmS M d) w _ _ _ _ _ _ _ _ _ _ _ _ _ _ _ _ _ _ _ _ _ _ _ _ _ _ _ _ _ _ _ _ _ _ _ _ _ _ _ _ _ _ _ _ _ _ _ _ _ _ _ _ _ _ _ _ _ _ _ _ _ _ _ _ _ _ _ _ _ _ _ _ _ _ _ _ _ _ _ _ _ _ _ _ _ _ _ _ _ _ _ _ _ _ _ _ _ _ _ _ _ _ _ _ _ _ _ _ _ _ _ _ _ _ _ _ _ _ _ _ _ _ _ _ _ _ _ _ _ _ _ _ _ _ _ _ _ _ _ _ _ _ _ _ _ _ _ _ _ _ _ _ _ _ _ _ _ _ _ _ _ _ _ _ _ _ _ _ _ _ _ _ _ _ _ _ _ _ _ _ _ _ _ _ _ _ _ _ _ _ _ _ _ _ _ _ _ _ _ _ _ _ _ _ _ _ _ _ _ _ _ _ _ _ _ _ _ _ _ _ _ _ _ _ _ _ _ _ _ _ _ _ _ _ _ _ _ _ _ _ _ _ _ _ _ _ _ _ _ _ _ _ _ _ _ _ _ _ _ _ _ _ _ _ _ _ _ _ _ _ _ _ _ _ _ _ _ _ _ _ _ _ _ _ _ _ _ _ _ _ _ _ _ _ _ _ _ _ _ _ _ _ _ _ _ _ _ _ _ _ _ _ _ _ _ _ _ _ _ _ _ _ _ _ _ _ _ _ _ _ _ _ _ _ _ _ _ _ _ _ _ _ _ _ _ _ _ _ _ _ _ _ _ _ _ _ _ _ _ _ _ _ _ _ _ _ _ _ _ _ _ _ _ _ _ _ _ _ _ _ hN12 hnb HR hHN hHP HSi HSs ?_
    rintro wx u4 u39 u40 u41 u42 u43 u44 u225 u226 u227 u228 u229 u230 u231 u232 u233 u234 u235 u236 u237 u238 u239 u240 u241 u242 u243 u244 u245 u246 u247 u248 u249 u250 u251 u252 u253 u254 u255 u256 u257 u258 u259 u260 u261 u262 u263 u264 u265 u266 u267 u268 u269 u270 u271 u272 u273 u274 u275 u276 u277 u278 u279 u280 u281 u282 u283 u284 u285 u286 u287 u288 u289 u290 u291 u292 hbx
    as_aux_lemma =>
    go_wp2_with fail
    all_goals (first | exact hbx | exact hQ _ _ _ _ _ _ _ _ _ _ _ _ _ _ _ _ _ _ _ _ _ _ _ _ _ _ _ _ _ _ _ _ _ _ _ _ _ _ _ _ _ _ _ _ _ _ _ _ _ _ _ _ _ _ _ _ _ _ _ _ _ _ _ _ _ _ _ _ _ _ _ _ _ _ _ _ _ _ _ _ _ _ _ hbx)
end Go.Proofs.Ytljdhicmcmppgaa
