/-
  FnCloseMoves: for all arguments the law returns true, and its arguments read afterwards as before. No condition.
-/
import Derived.Test.YtljdhicmcmppgaaRows
import Derived.BigQuiet
import Derived.Deep.LoopGhost
import Derived.Deep.Onto
import Derived.Deep.CutRange
import Derived.Deep.DeepCutAuto
import Derived.Test.YtljdhicmcmppgaaZ13
namespace Go.Proofs.Ytljdhicmcmppgaa
open Go.RowKit Go.ChangeShapes Go.WideShapes Go.Sort

set_option maxRecDepth 100000 in
set_option maxHeartbeats 32000000 in
theorem cl_l47 (a N fi se bm om cm : Nat) (tp bp : Int) (M : Nat → Nat → Int) (D : Nat → Nat → Int × Int) (w : World)
    (s0 s1 s2 s3 s4 s6 s7 s8 s11 s12 s13 s14 s17 s18 s19 s20 s21 s22 s23 s24 s25 s26 s27 s28 s29 s30 s31 s32 s33 s34 s35 s36 s37 s38 s39 s40 s41 s42 s43 s44 s47 s48 s49 s50 s51 s52 s53 s54 s55 s56 s57 s58 s59 s60 s61 s62 s63 s64 s65 s66 s67 s68 s69 s70 s71 s72 s73 s74 s75 s76 s77 s78 s79 s80 s81 s82 s83 s84 s85 s86 s87 s88 s89 s90 s91 s92 s93 s94 s95 s96 s97 s98 s99 s100 s101 s102 s103 s104 s105 s106 s107 s108 s109 s110 s111 s112 s113 s114 s115 s116 s117 s118 s119 s120 s121 s122 s123 s124 s125 s126 s127 s128 s129 s130 s131 s132 s133 s134 s135 s136 s137 s138 s139 s140 s141 s142 s143 s144 s145 s146 s147 s148 s149 s150 s151 s152 s153 s154 s155 s156 s157 s158 s159 s160 s161 s162 s163 s164 s165 s166 s167 s168 s169 s170 s171 s172 s173 s174 s175 s176 s177 s178 s179 s180 s181 s182 s183 s184 s185 s186 s187 s188 s189 s190 s191 s192 s193 s194 s195 s196 s197 s198 s199 s200 s201 s202 s203 s204 s205 s206 s207 s208 s209 s210 s211 s212 s213 s214 s215 s216 s217 s218 s219 s220 s221 s222 s223 s224 s225 s226 s227 s228 s229 s230 s231 s232 s233 s234 s235 s236 s237 s238 s239 s240 s241 s242 s243 s244 s245 s246 s247 s248 s249 s250 s251 s252 s253 s254 s255 s256 s257 s258 s259 s260 s261 s262 s263 s264 s265 s266 s267 s268 s269 s270 s271 s272 s273 s274 s275 s276 s277 s278 s279 s280 s281 s282 s283 s284 s285 s286 s287 s288 s289 s290 s291 s292 s293 s294 s295 s296 s297 s298 s299 s300 s301 s302 s303 s304 s305 s306 s307 s308 s309 s310 s311 s312 s313 s314 s315 s316 s317 s318 s319 s320 s321 s322 s323 s324 s325 s326 s327 s328 s329 s330 s331 s332 s333 s334 s335 s336 s337 s338 s339 s340 s341 s342 s343 s344 s345 s346 s347 s348 s349 s350 s351 s352 s353 s354 s355 s356 s357 s358 s359 s360 s361 s362 s363 s364 s365 s366 s367 s368 s369 s370 s371 s372 s373 s374 s375 s376 s377 s378 s379 s380 s381 s382 s383 s384 : Value) (Q0 : Exit → Act → World → Prop)
    (ha : a < N) (hN : N ≤ 12) (ht : 0 ≤ tp ∧ tp ≤ 11838003609600) (hb2 : 1 ≤ bp ∧ bp ≤ 8359936) (HM : Hid (Row5 w bm om N M)) (HLi : Hid (∀ (i k : Nat) (W : World), i < N → k < N → Calls Try.prog 6 #[mvV (M i), mvV (M k)] W (Ans W (.tuple #[.int .i64 (D i k).1, .int .i64 (D i k).2, .bool true])))) (HLs : Hid (∀ (i k : Nat) (W : World), i < N → k < N → Calls Try.prog 7 #[mvV (M i), mvV (M k)] W (Ans W (.tuple #[.int .i64 (D i k).1, .int .i64 (D i k).2, .bool true])))) (HB : Hid (∀ i k, i < N → k < N → DBd (D i k))) (HL : Hid (∀ i k, i < k → k < N → lessB (D i k).1 (D i k).2 tp bp = false)) (HE : Hid ((D fi se).1 = tp ∧ (D fi se).2 = bp))
    (hQ : ∀ (w' : World) (u4 u46 u47 u48 u49 u50 u51 u52 u306 u307 u308 u309 u310 u311 u312 u313 u314 u315 u316 u317 u318 u319 u320 u321 u322 u323 u324 u325 u326 u327 u328 u329 u330 u331 u332 u333 u334 u335 u336 u337 u338 u339 u340 u341 u342 u343 u344 u345 u346 u347 u348 u349 u350 u351 u352 u353 u354 u355 u356 u357 u358 u359 u360 u361 u362 u363 u364 u365 u366 u367 u368 u369 u370 u371 u372 u373 u374 u375 u376 u377 u378 u379 u380 : Value), Below w.heap.size w w' → Q0 (.exit 6) ⟨#[s0, s1, s2, s3, u4, (.slice (some ⟨bm, om, none⟩) N cm), s6, s7, s8, (.int .i64 (fi : Int)), (.int .i64 (se : Int)), s11, s12, s13, s14, (.int .i64 tp), (.int .i64 bp), s17, s18, s19, s20, s21, s22, s23, s24, s25, s26, s27, s28, s29, s30, s31, s32, s33, s34, s35, s36, s37, s38, s39, s40, s41, s42, s43, s44, (.int .i64 (a : Int)), u46, u47, u48, u49, u50, u51, u52, s53, s54, s55, s56, s57, s58, s59, s60, s61, s62, s63, s64, s65, s66, s67, s68, s69, s70, s71, s72, s73, s74, s75, s76, s77, s78, s79, s80, s81, s82, s83, s84, s85, s86, s87, s88, s89, s90, s91, s92, s93, s94, s95, s96, s97, s98, s99, s100, s101, s102, s103, s104, s105, s106, s107, s108, s109, s110, s111, s112, s113, s114, s115, s116, s117, s118, s119, s120, s121, s122, s123, s124, s125, s126, s127, s128, s129, s130, s131, s132, s133, s134, s135, s136, s137, s138, s139, s140, s141, s142, s143, s144, s145, s146, s147, s148, s149, s150, s151, s152, s153, s154, s155, s156, s157, s158, s159, s160, s161, s162, s163, s164, s165, s166, s167, s168, s169, s170, s171, s172, s173, s174, s175, s176, s177, s178, s179, s180, s181, s182, s183, s184, s185, s186, s187, s188, s189, s190, s191, s192, s193, s194, s195, s196, s197, s198, s199, s200, s201, s202, s203, s204, s205, s206, s207, s208, s209, s210, s211, s212, s213, s214, s215, s216, s217, s218, s219, s220, s221, s222, s223, s224, s225, s226, s227, s228, s229, s230, s231, s232, s233, s234, s235, s236, s237, s238, s239, s240, s241, s242, s243, s244, s245, s246, s247, s248, s249, s250, s251, s252, s253, s254, s255, s256, s257, s258, s259, s260, s261, s262, s263, s264, s265, s266, s267, s268, s269, s270, s271, s272, s273, s274, s275, s276, s277, s278, s279, s280, s281, s282, s283, s284, s285, s286, s287, s288, s289, s290, s291, s292, s293, s294, s295, s296, s297, s298, s299, s300, s301, s302, s303, s304, s305, u306, u307, u308, u309, u310, u311, u312, u313, u314, u315, u316, u317, u318, u319, u320, u321, u322, u323, u324, u325, u326, u327, u328, u329, u330, u331, u332, u333, u334, u335, u336, u337, u338, u339, u340, u341, u342, u343, u344, u345, u346, u347, u348, u349, u350, u351, u352, u353, u354, u355, u356, u357, u358, u359, u360, u361, u362, u363, u364, u365, u366, u367, u368, u369, u370, u371, u372, u373, u374, u375, u376, u377, u378, u379, u380, s381, s382, s383, s384], []⟩ w') :
    Code.wp Try.prog ((Try.f4.body.bind (findLoop 47)).getD .skip) Q0 ⟨#[s0, s1, s2, s3, s4, (.slice (some ⟨bm, om, none⟩) N cm), s6, s7, s8, (.int .i64 (fi : Int)), (.int .i64 (se : Int)), s11, s12, s13, s14, (.int .i64 tp), (.int .i64 bp), s17, s18, s19, s20, s21, s22, s23, s24, s25, s26, s27, s28, s29, s30, s31, s32, s33, s34, s35, s36, s37, s38, s39, s40, s41, s42, s43, s44, (.int .i64 (a : Int)), (.int .i64 ((a + 1 : Nat) : Int)), s47, s48, s49, s50, s51, s52, s53, s54, s55, s56, s57, s58, s59, s60, s61, s62, s63, s64, s65, s66, s67, s68, s69, s70, s71, s72, s73, s74, s75, s76, s77, s78, s79, s80, s81, s82, s83, s84, s85, s86, s87, s88, s89, s90, s91, s92, s93, s94, s95, s96, s97, s98, s99, s100, s101, s102, s103, s104, s105, s106, s107, s108, s109, s110, s111, s112, s113, s114, s115, s116, s117, s118, s119, s120, s121, s122, s123, s124, s125, s126, s127, s128, s129, s130, s131, s132, s133, s134, s135, s136, s137, s138, s139, s140, s141, s142, s143, s144, s145, s146, s147, s148, s149, s150, s151, s152, s153, s154, s155, s156, s157, s158, s159, s160, s161, s162, s163, s164, s165, s166, s167, s168, s169, s170, s171, s172, s173, s174, s175, s176, s177, s178, s179, s180, s181, s182, s183, s184, s185, s186, s187, s188, s189, s190, s191, s192, s193, s194, s195, s196, s197, s198, s199, s200, s201, s202, s203, s204, s205, s206, s207, s208, s209, s210, s211, s212, s213, s214, s215, s216, s217, s218, s219, s220, s221, s222, s223, s224, s225, s226, s227, s228, s229, s230, s231, s232, s233, s234, s235, s236, s237, s238, s239, s240, s241, s242, s243, s244, s245, s246, s247, s248, s249, s250, s251, s252, s253, s254, s255, s256, s257, s258, s259, s260, s261, s262, s263, s264, s265, s266, s267, s268, s269, s270, s271, s272, s273, s274, s275, s276, s277, s278, s279, s280, s281, s282, s283, s284, s285, s286, s287, s288, s289, s290, s291, s292, s293, s294, s295, s296, s297, s298, s299, s300, s301, s302, s303, s304, s305, s306, s307, s308, s309, s310, s311, s312, s313, s314, s315, s316, s317, s318, s319, s320, s321, s322, s323, s324, s325, s326, s327, s328, s329, s330, s331, s332, s333, s334, s335, s336, s337, s338, s339, s340, s341, s342, s343, s344, s345, s346, s347, s348, s349, s350, s351, s352, s353, s354, s355, s356, s357, s358, s359, s360, s361, s362, s363, s364, s365, s366, s367, s368, s369, s370, s371, s372, s373, s374, s375, s376, s377, s378, s379, s380, s381, s382, s383, s384], []⟩ w := by
  conv => arg 2; whnf
  try dsimp only
  go_loopw [46] (fun kk wr => ∃ k : Nat, a + 1 ≤ k ∧ k ≤ N ∧ kk = .int .i64 (k : Int) ∧ Below w.heap.size w wr) (fun kk _ => N - (intOf kk).toNat)
  case atStart => exact ⟨a + 1, by omega, by omega, rfl, Below.refl _ _⟩
  case round =>
    obtain ⟨k, hak, hk, rfl, hbk⟩ := hrel
    by_cases hlt : k < N
    · have jk : (k : Int) < (N : Int) := by omega
      have ja : (a : Int) < (N : Int) := by omega
      have ha : a < N := by omega
      have HLa := Lib.hid (fun W => HLi.out a k W ha hlt)
      have HLb := Lib.hid (fun W => HLs.out a k W ha hlt)
      obtain ⟨r1, r2⟩ := HB.out a k ha hlt
      have hle := Lib.hid (HL.out a k (by omega) hlt)
      have hee := Lib.hid (show a = fi → k = se → (D a k).1 = tp ∧ (D a k).2 = bp from fun e1 e2 => by rw [e1, e2]; exact HE.out)
      generalize (D a k).1 = a1 at *
      generalize (D a k).2 = b1 at *
      as_aux_lemma =>
      go_upto_region 49 with fail
      refine cl_r49 a k N bm om cm M a1 b1 wr _ _ _ _ _ _ _ _ _ _ _ _ _ _ _ _ _ _ _ _ _ _ _ _ _ _ _ _ _ _ _ _ _ _ _ _ _ _ _ _ _ _ _ _ _ _ _ _ _ _ _ _ _ _ _ _ _ _ _ _ _ _ _ _ _ _ _ _ _ _ _ _ _ _ _ _ _ _ _ _ _ _ _ _ _ _ _ _ _ _ _ _ _ _ _ _ _ _ _ _ _ _ _ _ _ _ _ _ _ _ _ _ _ _ _ _ _ _ _ _ _ _ _ _ _ _ _ _ _ _ _ _ _ _ _ _ _ _ _ _ _ _ _ _ _ _ _ _ _ _ _ _ _ _ _ _ _ _ _ _ _ _ _ _ _ _ _ _ _ _ _ _ _ _ _ _ _ _ _ _ _ _ _ _ _ _ _ _ _ _ _ _ _ _ _ _ _ _ _ _ _ _ _ _ _ _ _ _ _ _ _ _ _ _ _ _ _ _ _ _ _ _ _ _ _ _ _ _ _ _ _ _ _ _ _ _ _ _ _ _ _ _ _ _ _ _ _ _ _ _ _ _ _ _ _ _ _ _ _ _ _ _ _ _ _ _ _ _ _ _ _ _ _ _ _ _ _ _ _ _ _ _ _ _ _ _ _ _ _ _ _ _ _ _ _ _ _ _ _ _ _ _ _ _ _ _ _ _ _ _ _ _ _ _ _ _ _ _ _ _ _ _ _ _ _ _ _ _ _ _ _ _ _ _ _ _ _ _ _ _ _ _ _ _ _ _ _ _ _ _ _ _ _ _ _ _ _ _ _ _ _ _ _ _ _ _ _ _ _ _ _ _ _ _ _ _ _ _ _ _ _ _ _ ja jk ((HM.out a ha).up hbk) ((HM.out k hlt).up hbk) HLa ?_
      rintro wx u312 u313 u314 u315 u316 u317 u318 u319 u320 u321 u322 u323 u324 hbx
      have hbkx := up_trans hbk hbx
      go_upto_region 50 with fail
      refine cl_r50 a k N bm om cm M a1 b1 wx _ _ _ _ _ _ _ _ _ _ _ _ _ _ _ _ _ _ _ _ _ _ _ _ _ _ _ _ _ _ _ _ _ _ _ _ _ _ _ _ _ _ _ _ _ _ _ _ _ _ _ _ _ _ _ _ _ _ _ _ _ _ _ _ _ _ _ _ _ _ _ _ _ _ _ _ _ _ _ _ _ _ _ _ _ _ _ _ _ _ _ _ _ _ _ _ _ _ _ _ _ _ _ _ _ _ _ _ _ _ _ _ _ _ _ _ _ _ _ _ _ _ _ _ _ _ _ _ _ _ _ _ _ _ _ _ _ _ _ _ _ _ _ _ _ _ _ _ _ _ _ _ _ _ _ _ _ _ _ _ _ _ _ _ _ _ _ _ _ _ _ _ _ _ _ _ _ _ _ _ _ _ _ _ _ _ _ _ _ _ _ _ _ _ _ _ _ _ _ _ _ _ _ _ _ _ _ _ _ _ _ _ _ _ _ _ _ _ _ _ _ _ _ _ _ _ _ _ _ _ _ _ _ _ _ _ _ _ _ _ _ _ _ _ _ _ _ _ _ _ _ _ _ _ _ _ _ _ _ _ _ _ _ _ _ _ _ _ _ _ _ _ _ _ _ _ _ _ _ _ _ _ _ _ _ _ _ _ _ _ _ _ _ _ _ _ _ _ _ _ _ _ _ _ _ _ _ _ _ _ _ _ _ _ _ _ _ _ _ _ _ _ _ _ _ _ _ _ _ _ _ _ _ _ _ _ _ _ _ _ _ _ _ _ _ _ _ _ _ _ _ _ _ _ _ _ _ _ _ _ _ _ _ _ _ _ _ _ _ _ _ _ _ _ _ _ _ _ _ _ _ _ _ ja jk ((HM.out a ha).up hbkx) ((HM.out k hlt).up hbkx) HLb ?_
      rintro wy u325 u326 u327 u328 u329 u330 u331 u332 u333 u334 u335 u336 u337 hby
      have hbky := up_trans hbkx hby
      go_upto_region 51 with fail
      refine cl_r51 tp bp a1 b1 a k fi se wy _ _ _ _ _ _ _ _ _ _ _ _ _ _ _ _ _ _ _ _ _ _ _ _ _ _ _ _ _ _ _ _ _ _ _ _ _ _ _ _ _ _ _ _ _ _ _ _ _ _ _ _ _ _ _ _ _ _ _ _ _ _ _ _ _ _ _ _ _ _ _ _ _ _ _ _ _ _ _ _ _ _ _ _ _ _ _ _ _ _ _ _ _ _ _ _ _ _ _ _ _ _ _ _ _ _ _ _ _ _ _ _ _ _ _ _ _ _ _ _ _ _ _ _ _ _ _ _ _ _ _ _ _ _ _ _ _ _ _ _ _ _ _ _ _ _ _ _ _ _ _ _ _ _ _ _ _ _ _ _ _ _ _ _ _ _ _ _ _ _ _ _ _ _ _ _ _ _ _ _ _ _ _ _ _ _ _ _ _ _ _ _ _ _ _ _ _ _ _ _ _ _ _ _ _ _ _ _ _ _ _ _ _ _ _ _ _ _ _ _ _ _ _ _ _ _ _ _ _ _ _ _ _ _ _ _ _ _ _ _ _ _ _ _ _ _ _ _ _ _ _ _ _ _ _ _ _ _ _ _ _ _ _ _ _ _ _ _ _ _ _ _ _ _ _ _ _ _ _ _ _ _ _ _ _ _ _ _ _ _ _ _ _ _ _ _ _ _ _ _ _ _ _ _ _ _ _ _ _ _ _ _ _ _ _ _ _ _ _ _ _ _ _ _ _ _ _ _ _ _ _ _ _ _ _ _ _ _ _ _ _ _ _ _ _ _ _ _ _ _ _ _ _ _ _ _ _ _ _ _ _ _ _ _ _ _ _ _ _ _ _ _ _ _ r1 r2 ht hb2 hle hee.out ?_
      rintro wz u338 u339 u340 u341 u342 u343 u344 u345 u346 u347 u348 u349 u350 u351 u352 u353 u354 u355 u356 u357 u358 u359 u360 u361 u362 u363 u364 u365 u366 u367 u368 u369 u370 u371 u372 u373 u374 u375 u376 u377 u378 u379 hbz
      go_wp2_with fail
      go_roundw
      case rel => exact ⟨k + 1, by omega, by omega, by go_num, up_trans hbky hbz⟩
      case measure => simp [intOf]; omega
    · have e : k = N := by omega
      subst e
      go_wp2_with fail
      all_goals (first | exact hbk | exact hQ _ _ _ _ _ _ _ _ _ _ _ _ _ _ _ _ _ _ _ _ _ _ _ _ _ _ _ _ _ _ _ _ _ _ _ _ _ _ _ _ _ _ _ _ _ _ _ _ _ _ _ _ _ _ _ _ _ _ _ _ _ _ _ _ _ _ _ _ _ _ _ _ _ _ _ _ _ _ _ _ _ _ _ _ hbk)
set_option maxRecDepth 100000 in
set_option maxHeartbeats 32000000 in
theorem cl_l44 (N fi se bm om cm : Nat) (tp bp : Int) (M : Nat → Nat → Int) (D : Nat → Nat → Int × Int) (w : World)
    (s0 s1 s2 s3 s4 s6 s7 s8 s11 s12 s13 s14 s17 s18 s19 s20 s21 s22 s23 s24 s25 s26 s27 s28 s29 s30 s31 s32 s33 s34 s35 s36 s37 s38 s39 s40 s41 s42 s43 s44 s45 s46 s47 s48 s49 s50 s51 s52 s53 s54 s55 s56 s57 s58 s59 s60 s61 s62 s63 s64 s65 s66 s67 s68 s69 s70 s71 s72 s73 s74 s75 s76 s77 s78 s79 s80 s81 s82 s83 s84 s85 s86 s87 s88 s89 s90 s91 s92 s93 s94 s95 s96 s97 s98 s99 s100 s101 s102 s103 s104 s105 s106 s107 s108 s109 s110 s111 s112 s113 s114 s115 s116 s117 s118 s119 s120 s121 s122 s123 s124 s125 s126 s127 s128 s129 s130 s131 s132 s133 s134 s135 s136 s137 s138 s139 s140 s141 s142 s143 s144 s145 s146 s147 s148 s149 s150 s151 s152 s153 s154 s155 s156 s157 s158 s159 s160 s161 s162 s163 s164 s165 s166 s167 s168 s169 s170 s171 s172 s173 s174 s175 s176 s177 s178 s179 s180 s181 s182 s183 s184 s185 s186 s187 s188 s189 s190 s191 s192 s193 s194 s195 s196 s197 s198 s199 s200 s201 s202 s203 s204 s205 s206 s207 s208 s209 s210 s211 s212 s213 s214 s215 s216 s217 s218 s219 s220 s221 s222 s223 s224 s225 s226 s227 s228 s229 s230 s231 s232 s233 s234 s235 s236 s237 s238 s239 s240 s241 s242 s243 s244 s245 s246 s247 s248 s249 s250 s251 s252 s253 s254 s255 s256 s257 s258 s259 s260 s261 s262 s263 s264 s265 s266 s267 s268 s269 s270 s271 s272 s273 s274 s275 s276 s277 s278 s279 s280 s281 s282 s283 s284 s285 s286 s287 s288 s289 s290 s291 s292 s293 s294 s295 s296 s297 s298 s299 s302 s303 s304 s305 s306 s307 s308 s309 s310 s311 s312 s313 s314 s315 s316 s317 s318 s319 s320 s321 s322 s323 s324 s325 s326 s327 s328 s329 s330 s331 s332 s333 s334 s335 s336 s337 s338 s339 s340 s341 s342 s343 s344 s345 s346 s347 s348 s349 s350 s351 s352 s353 s354 s355 s356 s357 s358 s359 s360 s361 s362 s363 s364 s365 s366 s367 s368 s369 s370 s371 s372 s373 s374 s375 s376 s377 s378 s379 s380 s381 s382 s383 s384 : Value) (Q0 : Exit → Act → World → Prop)
    (hN : N ≤ 12) (ht : 0 ≤ tp ∧ tp ≤ 11838003609600) (hb2 : 1 ≤ bp ∧ bp ≤ 8359936) (HM : Hid (Row5 w bm om N M)) (HLi : Hid (∀ (i k : Nat) (W : World), i < N → k < N → Calls Try.prog 6 #[mvV (M i), mvV (M k)] W (Ans W (.tuple #[.int .i64 (D i k).1, .int .i64 (D i k).2, .bool true])))) (HLs : Hid (∀ (i k : Nat) (W : World), i < N → k < N → Calls Try.prog 7 #[mvV (M i), mvV (M k)] W (Ans W (.tuple #[.int .i64 (D i k).1, .int .i64 (D i k).2, .bool true])))) (HB : Hid (∀ i k, i < N → k < N → DBd (D i k))) (HL : Hid (∀ i k, i < k → k < N → lessB (D i k).1 (D i k).2 tp bp = false)) (HE : Hid ((D fi se).1 = tp ∧ (D fi se).2 = bp))
    (hQ : ∀ (w' : World) (u4 u45 u46 u47 u48 u49 u50 u51 u52 u301 u302 u303 u304 u305 u306 u307 u308 u309 u310 u311 u312 u313 u314 u315 u316 u317 u318 u319 u320 u321 u322 u323 u324 u325 u326 u327 u328 u329 u330 u331 u332 u333 u334 u335 u336 u337 u338 u339 u340 u341 u342 u343 u344 u345 u346 u347 u348 u349 u350 u351 u352 u353 u354 u355 u356 u357 u358 u359 u360 u361 u362 u363 u364 u365 u366 u367 u368 u369 u370 u371 u372 u373 u374 u375 u376 u377 u378 u379 u380 u381 : Value), Below w.heap.size w w' → Q0 (.exit 4) ⟨#[s0, s1, s2, s3, u4, (.slice (some ⟨bm, om, none⟩) N cm), s6, s7, s8, (.int .i64 (fi : Int)), (.int .i64 (se : Int)), s11, s12, s13, s14, (.int .i64 tp), (.int .i64 bp), s17, s18, s19, s20, s21, s22, s23, s24, s25, s26, s27, s28, s29, s30, s31, s32, s33, s34, s35, s36, s37, s38, s39, s40, s41, s42, s43, s44, u45, u46, u47, u48, u49, u50, u51, u52, s53, s54, s55, s56, s57, s58, s59, s60, s61, s62, s63, s64, s65, s66, s67, s68, s69, s70, s71, s72, s73, s74, s75, s76, s77, s78, s79, s80, s81, s82, s83, s84, s85, s86, s87, s88, s89, s90, s91, s92, s93, s94, s95, s96, s97, s98, s99, s100, s101, s102, s103, s104, s105, s106, s107, s108, s109, s110, s111, s112, s113, s114, s115, s116, s117, s118, s119, s120, s121, s122, s123, s124, s125, s126, s127, s128, s129, s130, s131, s132, s133, s134, s135, s136, s137, s138, s139, s140, s141, s142, s143, s144, s145, s146, s147, s148, s149, s150, s151, s152, s153, s154, s155, s156, s157, s158, s159, s160, s161, s162, s163, s164, s165, s166, s167, s168, s169, s170, s171, s172, s173, s174, s175, s176, s177, s178, s179, s180, s181, s182, s183, s184, s185, s186, s187, s188, s189, s190, s191, s192, s193, s194, s195, s196, s197, s198, s199, s200, s201, s202, s203, s204, s205, s206, s207, s208, s209, s210, s211, s212, s213, s214, s215, s216, s217, s218, s219, s220, s221, s222, s223, s224, s225, s226, s227, s228, s229, s230, s231, s232, s233, s234, s235, s236, s237, s238, s239, s240, s241, s242, s243, s244, s245, s246, s247, s248, s249, s250, s251, s252, s253, s254, s255, s256, s257, s258, s259, s260, s261, s262, s263, s264, s265, s266, s267, s268, s269, s270, s271, s272, s273, s274, s275, s276, s277, s278, s279, s280, s281, s282, s283, s284, s285, s286, s287, s288, s289, s290, s291, s292, s293, s294, s295, s296, s297, s298, s299, (.int .i64 (N : Int)), u301, u302, u303, u304, u305, u306, u307, u308, u309, u310, u311, u312, u313, u314, u315, u316, u317, u318, u319, u320, u321, u322, u323, u324, u325, u326, u327, u328, u329, u330, u331, u332, u333, u334, u335, u336, u337, u338, u339, u340, u341, u342, u343, u344, u345, u346, u347, u348, u349, u350, u351, u352, u353, u354, u355, u356, u357, u358, u359, u360, u361, u362, u363, u364, u365, u366, u367, u368, u369, u370, u371, u372, u373, u374, u375, u376, u377, u378, u379, u380, u381, s382, s383, s384], []⟩ w') :
    Code.wp Try.prog ((Try.f4.body.bind (findLoop 44)).getD .skip) Q0 ⟨#[s0, s1, s2, s3, s4, (.slice (some ⟨bm, om, none⟩) N cm), s6, s7, s8, (.int .i64 (fi : Int)), (.int .i64 (se : Int)), s11, s12, s13, s14, (.int .i64 tp), (.int .i64 bp), s17, s18, s19, s20, s21, s22, s23, s24, s25, s26, s27, s28, s29, s30, s31, s32, s33, s34, s35, s36, s37, s38, s39, s40, s41, s42, s43, s44, s45, s46, s47, s48, s49, s50, s51, s52, s53, s54, s55, s56, s57, s58, s59, s60, s61, s62, s63, s64, s65, s66, s67, s68, s69, s70, s71, s72, s73, s74, s75, s76, s77, s78, s79, s80, s81, s82, s83, s84, s85, s86, s87, s88, s89, s90, s91, s92, s93, s94, s95, s96, s97, s98, s99, s100, s101, s102, s103, s104, s105, s106, s107, s108, s109, s110, s111, s112, s113, s114, s115, s116, s117, s118, s119, s120, s121, s122, s123, s124, s125, s126, s127, s128, s129, s130, s131, s132, s133, s134, s135, s136, s137, s138, s139, s140, s141, s142, s143, s144, s145, s146, s147, s148, s149, s150, s151, s152, s153, s154, s155, s156, s157, s158, s159, s160, s161, s162, s163, s164, s165, s166, s167, s168, s169, s170, s171, s172, s173, s174, s175, s176, s177, s178, s179, s180, s181, s182, s183, s184, s185, s186, s187, s188, s189, s190, s191, s192, s193, s194, s195, s196, s197, s198, s199, s200, s201, s202, s203, s204, s205, s206, s207, s208, s209, s210, s211, s212, s213, s214, s215, s216, s217, s218, s219, s220, s221, s222, s223, s224, s225, s226, s227, s228, s229, s230, s231, s232, s233, s234, s235, s236, s237, s238, s239, s240, s241, s242, s243, s244, s245, s246, s247, s248, s249, s250, s251, s252, s253, s254, s255, s256, s257, s258, s259, s260, s261, s262, s263, s264, s265, s266, s267, s268, s269, s270, s271, s272, s273, s274, s275, s276, s277, s278, s279, s280, s281, s282, s283, s284, s285, s286, s287, s288, s289, s290, s291, s292, s293, s294, s295, s296, s297, s298, s299, (.int .i64 (N : Int)), (.int .i64 ((0 : Nat) : Int)), s302, s303, s304, s305, s306, s307, s308, s309, s310, s311, s312, s313, s314, s315, s316, s317, s318, s319, s320, s321, s322, s323, s324, s325, s326, s327, s328, s329, s330, s331, s332, s333, s334, s335, s336, s337, s338, s339, s340, s341, s342, s343, s344, s345, s346, s347, s348, s349, s350, s351, s352, s353, s354, s355, s356, s357, s358, s359, s360, s361, s362, s363, s364, s365, s366, s367, s368, s369, s370, s371, s372, s373, s374, s375, s376, s377, s378, s379, s380, s381, s382, s383, s384], []⟩ w := by
  conv => arg 2; whnf
  try dsimp only
  go_loopw [301] (fun ii wr => ∃ a : Nat, a ≤ N ∧ ii = .int .i64 (a : Int) ∧ Below w.heap.size w wr) (fun ii _ => N - (intOf ii).toNat)
  case atStart => exact ⟨0, by omega, rfl, Below.refl _ _⟩
  case round =>
    obtain ⟨a, ha, rfl, hbk⟩ := hrel
    by_cases hlt : a < N
    · have ja : (a : Int) < (N : Int) := by omega
      have HMa := Lib.hid (HM.out.up hbk)
      as_aux_lemma =>
      go_wp2_with fail
      refine cl_l47 a N fi se bm om cm tp bp M D wr _ _ _ _ _ _ _ _ _ _ _ _ _ _ _ _ _ _ _ _ _ _ _ _ _ _ _ _ _ _ _ _ _ _ _ _ _ _ _ _ _ _ _ _ _ _ _ _ _ _ _ _ _ _ _ _ _ _ _ _ _ _ _ _ _ _ _ _ _ _ _ _ _ _ _ _ _ _ _ _ _ _ _ _ _ _ _ _ _ _ _ _ _ _ _ _ _ _ _ _ _ _ _ _ _ _ _ _ _ _ _ _ _ _ _ _ _ _ _ _ _ _ _ _ _ _ _ _ _ _ _ _ _ _ _ _ _ _ _ _ _ _ _ _ _ _ _ _ _ _ _ _ _ _ _ _ _ _ _ _ _ _ _ _ _ _ _ _ _ _ _ _ _ _ _ _ _ _ _ _ _ _ _ _ _ _ _ _ _ _ _ _ _ _ _ _ _ _ _ _ _ _ _ _ _ _ _ _ _ _ _ _ _ _ _ _ _ _ _ _ _ _ _ _ _ _ _ _ _ _ _ _ _ _ _ _ _ _ _ _ _ _ _ _ _ _ _ _ _ _ _ _ _ _ _ _ _ _ _ _ _ _ _ _ _ _ _ _ _ _ _ _ _ _ _ _ _ _ _ _ _ _ _ _ _ _ _ _ _ _ _ _ _ _ _ _ _ _ _ _ _ _ _ _ _ _ _ _ _ _ _ _ _ _ _ _ _ _ _ _ _ _ _ _ _ _ _ _ _ _ _ _ _ _ _ _ _ _ _ _ _ _ _ _ _ _ _ _ _ _ _ _ _ _ _ _ _ _ _ _ _ _ _ _ _ _ _ _ _ _ _ _ _ _ _ _ _ _ _ hlt hN ht hb2 HMa HLi HLs HB HL HE ?_
      rintro wx u4 u46 u47 u48 u49 u50 u51 u52 u306 u307 u308 u309 u310 u311 u312 u313 u314 u315 u316 u317 u318 u319 u320 u321 u322 u323 u324 u325 u326 u327 u328 u329 u330 u331 u332 u333 u334 u335 u336 u337 u338 u339 u340 u341 u342 u343 u344 u345 u346 u347 u348 u349 u350 u351 u352 u353 u354 u355 u356 u357 u358 u359 u360 u361 u362 u363 u364 u365 u366 u367 u368 u369 u370 u371 u372 u373 u374 u375 u376 u377 u378 u379 u380 hbx
      as_aux_lemma =>
      go_wp2_with fail
      go_roundw
      case rel => exact ⟨a + 1, by omega, by go_num, up_trans hbk hbx⟩
      case measure => simp [intOf]; omega
    · have e : a = N := by omega
      subst e
      go_wp2_with fail
      all_goals (first | exact hbk | exact hQ _ _ _ _ _ _ _ _ _ _ _ _ _ _ _ _ _ _ _ _ _ _ _ _ _ _ _ _ _ _ _ _ _ _ _ _ _ _ _ _ _ _ _ _ _ _ _ _ _ _ _ _ _ _ _ _ _ _ _ _ _ _ _ _ _ _ _ _ _ _ _ _ _ _ _ _ _ _ _ _ _ _ _ _ _ _ _ _ _ _ _ hbk)
end Go.Proofs.Ytljdhicmcmppgaa
namespace Go.Proofs.Ytljdhicmcmppgaa
open Go.RowKit Go.ChangeShapes Go.WideShapes Go.Sort

set_option maxRecDepth 100000 in
set_option maxHeartbeats 16000000 in
theorem fnCloseMoves_walk (vv uu : Value) (n m : Nat) (w0 : World) (hv : Bytes w0 vv n) (hu : Bytes w0 uu m) (hn : n ≤ 9223372036854775807) (hm : m ≤ 9223372036854775807) :
    Calls Try.prog 4 #[vv, uu] w0 (Ans w0 (.bool true)) := by
  obtain ⟨z, hz⟩ : ∃ z, IntKind.i64.wrap ((n : Int) + m) = z := ⟨_, rfl⟩
  have HV := Lib.hid hv
  have HU := Lib.hid hu
  obtain ⟨Av, cv, rfl, _, _⟩ := hv
  obtain ⟨Au, cu, rfl, _, _⟩ := hu
  by_cases hz1 : z > 1048576
  · go_enter Try.func4, Try.ntmps4
    go_wp2_with fail
    go_ret
    exact ⟨rfl, Below.refl _ _⟩
  go_enter Try.func4, Try.ntmps4
  have hW_0 := Below.refl w0.heap.size w0
  go_wp2_with fail
  refine (drawClosestMoves_g _ n _ HV.out hn).mono ?_
  rintro e w1 ⟨tl, N, M, rfl, hl, hN13, hb_0⟩
  have hW_1 := up_trans hW_0 hb_0
  obtain ⟨fi, se, tp, bp, hcm, hlo, hcf⟩ := cm_facts N M
  obtain ⟨A5, c5, rfl, _⟩ := id hl
  have HCi := Lib.hid (fun W (hW : Moves W (.slice A5 N c5) N M) => iClosestMoves_any _ N M W hW (by omega))
  have HCs := Lib.hid (fun W (hW : Moves W (.slice A5 N c5) N M) => sClosestMoves_any _ N M W hW (by omega))
  have HLi := Lib.hid (fun W (hW : Moves W (.slice A5 N c5) N M) => iLeastOfAll_any _ N M W hW (by omega))
  have HLs := Lib.hid (fun W (hW : Moves W (.slice A5 N c5) N M) => sLeastOfAll_any _ N M W hW (by omega))
  rw [hcm] at HCi HCs
  rw [hlo] at HLi HLs
  obtain ⟨q, hq⟩ : ∃ q, tgL N M = q := ⟨_, rfl⟩
  rw [hq] at HCi HCs HLi HLs hcf
  have HCF := Lib.hid hcf
  clear hcm hlo hcf hq
  have k_l_1 := hl
  clear hl
  go_wp2_with fail
  refine (HCi.out _ k_l_1).mono ?_
  rintro e w2 ⟨rfl, hb_1⟩
  have hW_2 := up_trans hW_1 hb_1
  have k_l_2 := k_l_1.up hb_1
  clear k_l_1
  go_wp2_with fail
  refine (HCs.out _ k_l_2).mono ?_
  rintro e w3 ⟨rfl, hb_2⟩
  have hW_3 := up_trans hW_2 hb_2
  have k_l_3 := k_l_2.up hb_2
  clear k_l_2
  as_aux_lemma =>
  go_wp2_with fail
  refine (HLi.out _ k_l_3).mono ?_
  rintro e w4 ⟨rfl, hb_3⟩
  have hW_4 := up_trans hW_3 hb_3
  have k_l_4 := k_l_3.up hb_3
  clear k_l_3
  go_wp2_with fail
  refine (HLs.out _ k_l_4).mono ?_
  rintro e w5 ⟨rfl, hb_4⟩
  have hW_5 := up_trans hW_4 hb_4
  have k_l_5 := k_l_4.up hb_4
  clear k_l_4
  clear HCi HCs HLi HLs
  as_aux_lemma =>
  go_wp2_with fail
  refine (drawCloseMoves_g _ m _ (HU.out.up hW_5) hm).mono ?_
  rintro e w6 ⟨tm, N2, M2, d, rfl, hm2, hN2, hb_5⟩
  have hW_6 := up_trans hW_5 hb_5
  have k_l_6 := k_l_5.up hb_5
  clear k_l_5
  obtain ⟨A18, c18, rfl, _⟩ := id hm2
  have HCi := Lib.hid (fun W (hW : Moves W (.slice A18 N2 c18) N2 M2) => iCloseMoves_any _ N2 M2 d W hW (by omega))
  have HCs := Lib.hid (fun W (hW : Moves W (.slice A18 N2 c18) N2 M2) => sCloseMoves_any _ N2 M2 d W hW (by omega))
  have hnp144 := cvL_len N2 M2 d
  obtain ⟨q3, hq3⟩ : ∃ q, cvOk N2 M2 d = q := ⟨_, rfl⟩
  obtain ⟨np, hnp⟩ : ∃ t, (cvL N2 M2 d).length = t := ⟨_, rfl⟩
  rw [hq3, hnp] at HCi HCs
  rw [hnp] at hnp144
  have HQ3 := Lib.hid hq3
  have HNP := Lib.hid hnp
  clear hq3 hnp
  have k_m_6 := hm2
  clear hm2
  go_wp2_with fail
  refine (HCi.out _ k_m_6).mono ?_
  rintro e w7 ⟨x20, rfl, h20, hb_6⟩
  have hW_7 := up_trans hW_6 hb_6
  have k_l_7 := k_l_6.up hb_6
  clear k_l_6
  have k_m_7 := k_m_6.up hb_6
  clear k_m_6
  have k_c_7 := h20.rows
  clear h20
  go_wp2_with fail
  refine (HCs.out _ k_m_7).mono ?_
  rintro e w8 ⟨x22, rfl, h22, hb_7⟩
  have hW_8 := up_trans hW_7 hb_7
  have k_l_8 := k_l_7.up hb_7
  clear k_l_7
  have k_m_8 := k_m_7.up hb_7
  clear k_m_7
  have k_c_8 := k_c_7.up hb_7
  clear k_c_7
  obtain ⟨A22, c22, V22, rfl, _⟩ := id h22.rows
  have k_p_8 := h22.rows
  clear h22 HCi HCs
  as_aux_lemma =>
  go_wp2_with fail
  refine (drawWaysCross_g _ m _ (HU.out.up hW_8) hm).mono ?_
  rintro e w9 ⟨x, y, u, v, c, x', y', u', v', c', rfl, hb_8⟩
  have hW_9 := up_trans hW_8 hb_8
  have k_l_9 := k_l_8.up hb_8
  clear k_l_8
  have k_m_9 := k_m_8.up hb_8
  clear k_m_8
  have k_c_9 := k_c_8.up hb_8
  clear k_c_8
  have k_p_9 := k_p_8.up hb_8
  clear k_p_8
  obtain ⟨q5, hq5⟩ : ∃ q, togB x y u v c x' y' u' v' c' = q := ⟨_, rfl⟩
  obtain ⟨xc, hxc⟩ : ∃ s, (togB x y u v c x' y' u' v' c' && wcB x y u v x' y' u' v') = s := ⟨_, rfl⟩
  have HWi := Lib.hid (fun W => iWaysCross_any x y u v c x' y' u' v' c' W)
  have HWs := Lib.hid (fun W => sWaysCross_any x y u v c x' y' u' v' c' W)
  unfold wcV at HWi HWs
  rw [hxc, hq5] at HWi HWs
  have HQ5 := Lib.hid hq5
  have HX := Lib.hid hxc
  clear hq5 hxc
  go_upto_region 12 with fail
  generalize hWx : World.alloc (World.alloc w9 _) _ = w10
  have hb_9 : Below w9.heap.size w9 w10 := by subst hWx; exact (below_alloc _ _).trans ((below_alloc _ _).mono (by simp))
  have hW_10 := up_trans hW_9 hb_9
  have k_l_10 := k_l_9.up hb_9
  clear k_l_9
  have k_m_10 := k_m_9.up hb_9
  clear k_m_9
  have k_c_10 := k_c_9.up hb_9
  clear k_c_9
  have k_p_10 := k_p_9.up hb_9
  clear k_p_9
  have k_a_10 : MC w10 (w9.heap.size) x y u v c := by subst hWx; exact ⟨by simp [go_sem], by simp [go_sem], by simp [go_sem], by simp [go_sem], by simp [go_sem]⟩
  have k_b_10 : MC w10 (w9.heap.size + 1) x' y' u' v' c' := by subst hWx; exact ⟨by simp [go_sem], by simp [go_sem], by simp [go_sem], by simp [go_sem], by simp [go_sem]⟩
  clear hWx
  have i0 := k_a_10.c0
  have i1 := k_a_10.c1
  have i2 := k_a_10.c2
  have i3 := k_a_10.c3
  have i4 := k_a_10.c4
  have j0 := k_b_10.c0
  have j1 := k_b_10.c1
  have j2 := k_b_10.c2
  have j3 := k_b_10.c3
  have j4 := k_b_10.c4
  go_wp2_with fail
  refine (HWi.out _).mono ?_
  rintro e w11 ⟨rfl, hb_10⟩
  clear i0 i1 i2 i3 i4 j0 j1 j2 j3 j4
  have hW_11 := up_trans hW_10 hb_10
  have k_l_11 := k_l_10.up hb_10
  clear k_l_10
  have k_m_11 := k_m_10.up hb_10
  clear k_m_10
  have k_c_11 := k_c_10.up hb_10
  clear k_c_10
  have k_p_11 := k_p_10.up hb_10
  clear k_p_10
  have k_a_11 := k_a_10.up hb_10
  clear k_a_10
  have k_b_11 := k_b_10.up hb_10
  clear k_b_10
  have i0 := k_a_11.c0
  have i1 := k_a_11.c1
  have i2 := k_a_11.c2
  have i3 := k_a_11.c3
  have i4 := k_a_11.c4
  have j0 := k_b_11.c0
  have j1 := k_b_11.c1
  have j2 := k_b_11.c2
  have j3 := k_b_11.c3
  have j4 := k_b_11.c4
  go_wp2_with fail
  refine (HWs.out _).mono ?_
  rintro e w12 ⟨rfl, hb_11⟩
  clear i0 i1 i2 i3 i4 j0 j1 j2 j3 j4
  have hW_12 := up_trans hW_11 hb_11
  have k_l_12 := k_l_11.up hb_11
  clear k_l_11
  have k_m_12 := k_m_11.up hb_11
  clear k_m_11
  have k_c_12 := k_c_11.up hb_11
  clear k_c_11
  have k_p_12 := k_p_11.up hb_11
  clear k_p_11
  have k_a_12 := k_a_11.up hb_11
  clear k_a_11
  have k_b_12 := k_b_11.up hb_11
  clear k_b_11
  clear HWi HWs
  as_aux_lemma =>
  go_upto_region 14 with fail
  refine cl_r14 fi se tp bp q q3 q5 xc np (prF (cvL N2 M2 d)) _ _ w12 _ _ _ _ _ _ _ _ _ _ _ _ _ _ _ _ _ _ _ _ _ _ _ _ _ _ _ _ _ _ _ _ _ _ _ _ _ _ _ _ _ _ _ _ _ _ _ _ _ _ _ _ _ _ _ _ _ _ _ _ _ _ _ _ _ _ _ _ _ _ _ _ _ _ _ _ _ _ _ _ _ _ _ _ _ _ _ _ _ _ _ _ _ _ _ _ _ _ _ _ _ _ _ _ _ _ _ _ _ _ _ _ _ _ _ _ _ _ _ _ _ _ _ _ _ _ _ _ _ _ _ _ _ _ _ _ _ _ _ _ _ _ _ _ _ _ _ _ _ _ _ _ _ _ _ _ _ _ _ _ _ _ _ _ _ _ _ _ _ _ _ _ _ _ _ _ _ _ _ _ _ _ _ _ _ _ _ _ _ _ _ _ _ _ _ _ _ _ _ _ _ _ _ _ _ _ _ _ _ _ _ _ _ _ _ _ _ _ _ _ _ _ _ _ _ _ _ _ _ _ _ _ _ _ _ _ _ _ _ _ _ _ _ _ _ _ _ _ _ _ _ _ _ _ _ _ _ _ _ _ _ _ _ _ _ _ _ _ _ _ _ _ _ _ _ _ _ _ _ _ _ _ _ _ _ _ _ _ _ _ _ _ _ _ _ _ _ _ _ _ _ _ _ _ _ _ _ _ _ _ _ _ hnp144 k_c_12 k_p_12 ?_
  rintro w13 u119 u120 u121 u122 u123 u124 u125 u126 u127 u128 u129 u130 u131 u132 u133 u134 u135 u136 u137 u138 u139 u140 u141 u142 u143 u144 u145 u146 u147 u148 u149 u150 u151 u152 u153 u154 u155 u156 u157 u158 u159 u160 u161 u162 u163 u164 u165 u166 u167 u168 u169 u170 u171 hb_12
  have hW_13 := up_trans hW_12 hb_12
  have k_l_13 := k_l_12.up hb_12
  clear k_l_12
  have k_m_13 := k_m_12.up hb_12
  clear k_m_12
  have k_c_13 := k_c_12.up hb_12
  clear k_c_12
  have k_p_13 := k_p_12.up hb_12
  clear k_p_12
  have k_a_13 := k_a_12.up hb_12
  clear k_a_12
  have k_b_13 := k_b_12.up hb_12
  clear k_b_12
  clear k_c_13
  as_aux_lemma =>
  go_upto_if 173 with fail
  refine cl_if173 x y u v c x' y' u' v' c' q5 xc _ _ w13 _ _ _ _ _ _ _ _ _ _ _ _ _ _ _ _ _ _ _ _ _ _ _ _ _ _ _ _ _ _ _ _ _ _ _ _ _ _ _ _ _ _ _ _ _ _ _ _ _ _ _ _ _ _ _ _ _ _ _ _ _ _ _ _ _ _ _ _ _ _ _ _ _ _ _ _ _ _ _ _ _ _ _ _ _ _ _ _ _ _ _ _ _ _ _ _ _ _ _ _ _ _ _ _ _ _ _ _ _ _ _ _ _ _ _ _ _ _ _ _ _ _ _ _ _ _ _ _ _ _ _ _ _ _ _ _ _ _ _ _ _ _ _ _ _ _ _ _ _ _ _ _ _ _ _ _ _ _ _ _ _ _ _ _ _ _ _ _ _ _ _ _ _ _ _ _ _ _ _ _ _ _ _ _ _ _ _ _ _ _ _ _ _ _ _ _ _ _ _ _ _ _ _ _ _ _ _ _ _ _ _ _ _ _ _ _ _ _ _ _ _ _ _ _ _ _ _ _ _ _ _ _ _ _ _ _ _ _ _ _ _ _ _ _ _ _ _ _ _ _ _ _ _ _ _ _ _ _ _ _ _ _ _ _ _ _ _ _ _ _ _ _ _ _ _ _ _ _ _ _ _ _ _ _ _ _ _ _ _ _ _ _ _ _ _ _ _ _ _ _ _ _ _ _ _ _ _ _ _ _ _ _ _ _ _ _ _ _ _ _ _ _ _ _ _ _ HQ5 HX (Lib.hid k_a_13) (Lib.hid k_b_13) ?_
  rintro w14 u30 u31 u32 u33 u34 u35 u36 u37 u174 u175 u176 u177 u178 u179 u180 u181 u182 u183 u184 u185 u186 u187 u188 u189 u190 u191 u192 u193 u194 u195 u196 u197 u198 u199 u200 u201 u202 u203 u204 u205 u206 u207 u208 u209 u210 u211 u212 u213 u214 u215 u216 u217 u218 u219 u220 u221 hb_13
  have hW_14 := up_trans hW_13 hb_13
  have k_l_14 := k_l_13.up hb_13
  clear k_l_13
  have k_m_14 := k_m_13.up hb_13
  clear k_m_13
  have k_p_14 := k_p_13.up hb_13
  clear k_p_13
  have k_a_14 := k_a_13.up hb_13
  clear k_a_13
  have k_b_14 := k_b_13.up hb_13
  clear k_b_13
  clear HQ5 HX k_a_14 k_b_14
  as_aux_lemma =>
  go_upto_if 222 with fail
  refine cl_if222 N2 np _ _ d q3 _ _ M2 w14 _ _ _ _ _ _ _ _ _ _ _ _ _ _ _ _ _ _ _ _ _ _ _ _ _ _ _ _ _ _ _ _ _ _ _ _ _ _ _ _ _ _ _ _ _ _ _ _ _ _ _ _ _ _ _ _ _ _ _ _ _ _ _ _ _ _ _ _ _ _ _ _ _ _ _ _ _ _ _ _ _ _ _ _ _ _ _ _ _ _ _ _ _ _ _ _ _ _ _ _ _ _ _ _ _ _ _ _ _ _ _ _ _ _ _ _ _ _ _ _ _ _ _ _ _ _ _ _ _ _ _ _ _ _ _ _ _ _ _ _ _ _ _ _ _ _ _ _ _ _ _ _ _ _ _ _ _ _ _ _ _ _ _ _ _ _ _ _ _ _ _ _ _ _ _ _ _ _ _ _ _ _ _ _ _ _ _ _ _ _ _ _ _ _ _ _ _ _ _ _ _ _ _ _ _ _ _ _ _ _ _ _ _ _ _ _ _ _ _ _ _ _ _ _ _ _ _ _ _ _ _ _ _ _ _ _ _ _ _ _ _ _ _ _ _ _ _ _ _ _ _ _ _ _ _ _ _ _ _ _ _ _ _ _ _ _ _ _ _ _ _ _ _ _ _ _ _ _ _ _ _ _ _ _ _ _ _ _ _ _ _ _ _ _ _ _ _ _ _ _ _ HQ3 (Lib.hid k_m_14) HNP (Lib.hid k_p_14) ?_
  rintro w15 u4 u38 u39 u40 u41 u42 u43 u44 u223 u224 u225 u226 u227 u228 u229 u230 u231 u232 u233 u234 u235 u236 u237 u238 u239 u240 u241 u242 u243 u244 u245 u246 u247 u248 u249 u250 u251 u252 u253 u254 u255 u256 u257 u258 u259 u260 u261 u262 u263 u264 u265 u266 u267 u268 u269 u270 u271 u272 u273 u274 u275 u276 u277 u278 u279 u280 u281 u282 u283 u284 u285 u286 u287 u288 u289 u290 u291 u292 u293 u294 u295 u296 hb_14
  have hW_15 := up_trans hW_14 hb_14
  have k_l_15 := k_l_14.up hb_14
  clear k_l_14
  have k_m_15 := k_m_14.up hb_14
  clear k_m_14
  have k_p_15 := k_p_14.up hb_14
  clear k_p_14
  clear HQ3 HNP k_m_15 k_p_15
  cases q with
  | false =>
    as_aux_lemma =>
    go_wp2_with fail
    go_ret
    exact ⟨rfl, hW_15⟩
  | true =>
    have CF := HCF.out rfl
    have hn2 := CF.n2
    obtain ⟨A9, c9, e9, _, hrow⟩ := k_l_15
    injection e9 with e1 _ e2
    subst e1
    subst e2
    obtain ⟨bm, om, rfl, hR⟩ := hrow (by omega)
    have HR := Lib.hid hR
    have hN12 := CF.n12
    have hall := CF.all
    have HLi := Lib.hid (fun (i k : Nat) (W : World) (hi : i < N) (hk : k < N) => (show Calls Try.prog 6 #[mvV (M i), mvV (M k)] W (Ans W (.tuple #[.int .i64 (mmD M i k).1, .int .i64 (mmD M i k).2, .bool true])) by
      have h := iLeastApart_any (M i 0) (M i 1) (M i 2) (M i 3) (M i 4) (M k 0) (M k 1) (M k 2) (M k 3) (M k 4) W
      rw [lapV_eq, show togB (M i 0) (M i 1) (M i 2) (M i 3) (M i 4) (M k 0) (M k 1) (M k 2) (M k 3) (M k 4) = true from hall i k hi hk] at h
      exact h))
    have HLs := Lib.hid (fun (i k : Nat) (W : World) (hi : i < N) (hk : k < N) => (show Calls Try.prog 7 #[mvV (M i), mvV (M k)] W (Ans W (.tuple #[.int .i64 (mmD M i k).1, .int .i64 (mmD M i k).2, .bool true])) by
      have h := sLeastApart_any (M i 0) (M i 1) (M i 2) (M i 3) (M i 4) (M k 0) (M k 1) (M k 2) (M k 3) (M k 4) W
      rw [lapV_eq, show togB (M i 0) (M i 1) (M i 2) (M i 3) (M i 4) (M k 0) (M k 1) (M k 2) (M k 3) (M k 4) = true from hall i k hi hk] at h
      exact h))
    obtain ⟨r1, r2⟩ := CF.rng
    have HB := Lib.hid CF.bd
    have HLL := Lib.hid CF.least
    have HE := Lib.hid (And.intro CF.eq1 CF.eq2)
    have hord := CF.ord
    have jord : (fi : Int) < (se : Int) := by omega
    clear CF HCF hall hrow hR
    as_aux_lemma =>
    go_wp2_with fail
    generalize hD : mmD M = D at *
    refine cl_l44 N fi se bm om _ tp bp M D w15 _ _ _ _ _ _ _ _ _ _ _ _ _ _ _ _ _ _ _ _ _ _ _ _ _ _ _ _ _ _ _ _ _ _ _ _ _ _ _ _ _ _ _ _ _ _ _ _ _ _ _ _ _ _ _ _ _ _ _ _ _ _ _ _ _ _ _ _ _ _ _ _ _ _ _ _ _ _ _ _ _ _ _ _ _ _ _ _ _ _ _ _ _ _ _ _ _ _ _ _ _ _ _ _ _ _ _ _ _ _ _ _ _ _ _ _ _ _ _ _ _ _ _ _ _ _ _ _ _ _ _ _ _ _ _ _ _ _ _ _ _ _ _ _ _ _ _ _ _ _ _ _ _ _ _ _ _ _ _ _ _ _ _ _ _ _ _ _ _ _ _ _ _ _ _ _ _ _ _ _ _ _ _ _ _ _ _ _ _ _ _ _ _ _ _ _ _ _ _ _ _ _ _ _ _ _ _ _ _ _ _ _ _ _ _ _ _ _ _ _ _ _ _ _ _ _ _ _ _ _ _ _ _ _ _ _ _ _ _ _ _ _ _ _ _ _ _ _ _ _ _ _ _ _ _ _ _ _ _ _ _ _ _ _ _ _ _ _ _ _ _ _ _ _ _ _ _ _ _ _ _ _ _ _ _ _ _ _ _ _ _ _ _ _ _ _ _ _ _ _ _ _ _ _ _ _ _ _ _ _ _ _ _ _ _ _ _ _ _ _ _ _ _ _ _ _ _ _ _ _ _ _ _ _ _ _ _ _ _ _ _ _ _ _ _ _ _ _ _ _ _ _ _ _ _ _ _ _ _ _ _ _ _ _ _ _ _ _ _ _ _ _ _ _ _ _ _ _ _ hN12 r1 r2 HR HLi HLs HB HLL HE ?_
    rintro w16 u4 u45 u46 u47 u48 u49 u50 u51 u52 u301 u302 u303 u304 u305 u306 u307 u308 u309 u310 u311 u312 u313 u314 u315 u316 u317 u318 u319 u320 u321 u322 u323 u324 u325 u326 u327 u328 u329 u330 u331 u332 u333 u334 u335 u336 u337 u338 u339 u340 u341 u342 u343 u344 u345 u346 u347 u348 u349 u350 u351 u352 u353 u354 u355 u356 u357 u358 u359 u360 u361 u362 u363 u364 u365 u366 u367 u368 u369 u370 u371 u372 u373 u374 u375 u376 u377 u378 u379 u380 u381 hb_15
    have hW_16 := up_trans hW_15 hb_15
    as_aux_lemma =>
    go_wp2_with fail
    go_ret
    exact Ans.bool (by simp) hW_16

set_option maxRecDepth 100000 in
theorem fnCloseMoves_law : LawWalk Try.prog 4 Try.f4 := by
  intro H enc W base args ds ps hval hA
  rw [Try.params4] at hval hA
  obtain ⟨v0, v1, d0, d1, p0, p1, rfl, rfl, rfl, h0, h1⟩ := trodAll_two hA
  obtain ⟨n, hs, hn⟩ := open_bytes (hval 0 _ v0 rfl rfl) h0
  obtain ⟨m, ht, hm⟩ := open_bytes (hval 1 _ v1 rfl rfl) h1
  exact fnCloseMoves_walk v0 v1 n m W hs ht hn hm

set_option maxRecDepth 100000 in
set_option maxHeartbeats 4000000 in
theorem fnCloseMoves_wit (os : Os) (H : Type) (enc : TypeId × Value → H) : ∃ (w : World) (tape : Tape) (i : Input), w.os = os ∧ (w.forCall tape i).Shaped Try.checked.prog ∧ i.vars = [] ∧ Input.okWide Try.checked.prog (w.forCall tape i) .any w.heap.size 4 i ∧
      Rows.fnCloseMovesSpec.pre6 enc Try.checked.prog Try.f4 [] false (w.forCall tape i).memory i.args ∧ ({} : Assume).holds Try.checked.prog (lone (Frame.enter Try.checked.prog 4 i.args .normal) [] (w.forCall tape i)) :=
  ChangeSpec.witness6 (enc := enc) (C := Try.checked) false ⟨#[], #[.slice none 0 0, .slice none 0 0], []⟩ 8 (by kernel_rfl) (by kernel_rfl) (by kernel_rfl) (by kernel_rfl)

set_option maxRecDepth 100000 in
set_option maxHeartbeats 4000000 in
theorem fnCloseMoves_row (os : Os) (started : os.Started) (H : Type) (enc : TypeId × Value → H) :
    ReturnsInHanded {} Try.checked os 4 .any (Rows.fnCloseMovesSpec.pre6 enc Try.checked.prog Try.f4 [] false) (Rows.fnCloseMovesSpec.post enc Try.checked.prog Try.f4 false true false false) :=
  lifted_of (C := Try.checked) (s := Rows.fnCloseMovesSpec) (tb := 4) (by kernel_rfl) (by kernel_rfl) (by kernel_rfl) (by kernel_rfl) Try.func4 rfl Try.underlying4 rfl
      (fun H ds h => by
        have h2 : ds.length = 2 := by rw [Try.params4] at h; exact h
        match ds, h2 with
        | [_, _], _ => rfl)
      fnCloseMoves_law os started H enc (fnCloseMoves_wit os H enc)

set_option maxRecDepth 100000 in
set_option maxHeartbeats 4000000 in
theorem fnCloseMoves_holds : Rows.FnCloseMovesSaid :=
  OpenClaim.holds_of_wide 4 Try.f4 rfl rfl rfl rfl rfl rfl rfl ⟨rfl, rfl, rfl, rfl, rfl⟩ rfl rfl rfl rfl rfl (by kernel_rfl) Try.func4 (by kernel_rfl)
    (of_decide_eq_true (by kernel_rfl)) (by unfold Func.isWrapper; first | (rw [if_pos (by decide +kernel)]; kernel_rfl) | (rw [if_neg (by decide +kernel)]; exact ⟨rfl, rfl⟩))
    (fun os started H enc _ => fnCloseMoves_row os started H enc)

#print axioms fnCloseMoves_holds
end Go.Proofs.Ytljdhicmcmppgaa
