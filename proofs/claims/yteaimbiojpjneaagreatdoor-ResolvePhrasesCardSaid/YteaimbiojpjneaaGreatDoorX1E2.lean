/- Plain functional programs out of the program's functions, with proofs that the functions compute them; printed by wip/Ext.lean.txt. -/
import Derived.Test.YteaimbiojpjneaaGreatDoorX1E1
set_option linter.unusedVariables false
set_option linter.unusedSimpArgs false
set_option maxRecDepth 100000
set_option maxHeartbeats 4000000
namespace Go.Proofs.YteaimbiojpjneaaGreatDoor
/- math.sin -/
theorem g130_ok (n : Nat) (a0 : Nat) {t : ρ130} (R : AV → Mem → Prop) (hR : ∀ r : ρ130, t = r → ∀ u m, Ans ((fltA r)) u m → R u m) : g130 n a0 = some t → F130 a0 R := by
  unfold g130 F130
  refine feql_s ?_
  refine cond_b (fun _ => ?_) (fun _ => ?_)
  · exact fun hg => ret1 (hR _ (Option.some.inj hg).symm) (fz_sc _ _)
  · refine bind_b fun x62 h62 => ?_
    refine imp (callQ_says (sg112 h62)) ?_
    refine imp exB_b ?_
    refine cond_b (fun _ => ?_) (fun _ => ?_)
    · exact fun hg => ret1 (hR _ (Option.some.inj hg).symm) (fz_sc _ _)
    · refine bind_b fun x64 h64 => ?_
      refine imp (callQ_says (sg113 h64)) ?_
      refine imp exB_b ?_
      refine cond_b (fun _ => ?_) (fun _ => ?_)
      · refine bind_b fun x65 h65 => ?_
        refine imp (callQ_says (sg115 h65)) ?_
        refine imp exF_b ?_
        exact fun hg => ret1 (hR _ (Option.some.inj hg).symm) (fz_sc _ _)
      · refine flss_s ?_
        refine cond_b (fun _ => ?_) (fun _ => ?_)
        · refine fneg_s ?_
          refine fgeq_s ?_
          refine cond_b (fun _ => ?_) (fun _ => ?_)
          · exact fun h => by cases h
          · refine fmul_s fun x155 => ?_
            refine bind_b fun x156 h156 => ?_
            refine iq (AV.sc (.int .u64 x156)) (opA_f2i (by kernel_rfl) (by kernel_rfl) h156) ?_
            refine imp ex_u64_b ?_
            refine iq (fltA (i2f x156)) (opA_i2f (by kernel_rfl) (by kernel_rfl)) ?_
            refine imp exF_b ?_
            refine iq (AV.sc (.int .u64 (bAnd .u64 x156 (1)))) (opA_band _ _) ?_
            refine imp ex_u64_b ?_
            refine cond_b (fun _ => ?_) (fun _ => ?_)
            · refine fadd_s fun x157 => ?_
              refine iq (AV.sc (.int .u64 (bAnd .u64 (IntKind.wrap .u64 (x156 + (1))) (7)))) (opA_band _ _) ?_
              refine imp ex_u64_b ?_
              refine fmul_s fun x158 => ?_
              refine fsub_s fun x159 => ?_
              refine fmul_s fun x160 => ?_
              refine fsub_s fun x161 => ?_
              refine fmul_s fun x162 => ?_
              refine fsub_s fun x163 => ?_
              refine cond_b (fun _ => ?_) (fun _ => ?_)
              · refine fmul_s fun x164 => ?_
                refine cond_b (fun _ => ?_) (fun _ => ?_)
                · refine fmul_s fun x165 => ?_
                  refine fsub_s fun x166 => ?_
                  refine fmul_s fun x167 => ?_
                  refine fld_s 13666448263388469915 rfl rfl ?_
                  refine fmul_s fun x168 => ?_
                  refine fld_s 4477121864728985349 rfl rfl ?_
                  refine fadd_s fun x169 => ?_
                  refine fmul_s fun x170 => ?_
                  refine fld_s 13732177093698800582 rfl rfl ?_
                  refine fadd_s fun x171 => ?_
                  refine fmul_s fun x172 => ?_
                  refine fld_s 4537941361668146421 rfl rfl ?_
                  refine fadd_s fun x173 => ?_
                  refine fmul_s fun x174 => ?_
                  refine fld_s 13787419979223748497 rfl rfl ?_
                  refine fadd_s fun x175 => ?_
                  refine fmul_s fun x176 => ?_
                  refine fld_s 4586165620538955083 rfl rfl ?_
                  refine fadd_s fun x177 => ?_
                  refine fmul_s fun x178 => ?_
                  refine fadd_s fun x179 => ?_
                  exact fun hg => ret1 (hR _ (Option.some.inj hg).symm) (fz_sc _ _)
                · refine cond_b (fun _ => ?_) (fun _ => ?_)
                  · refine fmul_s fun x180 => ?_
                    refine fsub_s fun x181 => ?_
                    refine fmul_s fun x182 => ?_
                    refine fld_s 13666448263388469915 rfl rfl ?_
                    refine fmul_s fun x183 => ?_
                    refine fld_s 4477121864728985349 rfl rfl ?_
                    refine fadd_s fun x184 => ?_
                    refine fmul_s fun x185 => ?_
                    refine fld_s 13732177093698800582 rfl rfl ?_
                    refine fadd_s fun x186 => ?_
                    refine fmul_s fun x187 => ?_
                    refine fld_s 4537941361668146421 rfl rfl ?_
                    refine fadd_s fun x188 => ?_
                    refine fmul_s fun x189 => ?_
                    refine fld_s 13787419979223748497 rfl rfl ?_
                    refine fadd_s fun x190 => ?_
                    refine fmul_s fun x191 => ?_
                    refine fld_s 4586165620538955083 rfl rfl ?_
                    refine fadd_s fun x192 => ?_
                    refine fmul_s fun x193 => ?_
                    refine fadd_s fun x194 => ?_
                    exact fun hg => ret1 (hR _ (Option.some.inj hg).symm) (fz_sc _ _)
                  · refine fmul_s fun x195 => ?_
                    refine fld_s 4460209587652500685 rfl rfl ?_
                    refine fmul_s fun x196 => ?_
                    refine fld_s 13716528389658582877 rfl rfl ?_
                    refine fadd_s fun x197 => ?_
                    refine fmul_s fun x198 => ?_
                    refine fld_s 4523617212962785441 rfl rfl ?_
                    refine fadd_s fun x199 => ?_
                    refine fmul_s fun x200 => ?_
                    refine fld_s 13774824197404483331 rfl rfl ?_
                    refine fadd_s fun x201 => ?_
                    refine fmul_s fun x202 => ?_
                    refine fld_s 4575957461383575504 rfl rfl ?_
                    refine fadd_s fun x203 => ?_
                    refine fmul_s fun x204 => ?_
                    refine fld_s 13818544856648471880 rfl rfl ?_
                    refine fadd_s fun x205 => ?_
                    refine fmul_s fun x206 => ?_
                    refine fadd_s fun x207 => ?_
                    exact fun hg => ret1 (hR _ (Option.some.inj hg).symm) (fz_sc _ _)
              · refine fmul_s fun x208 => ?_
                refine cond_b (fun _ => ?_) (fun _ => ?_)
                · refine fmul_s fun x209 => ?_
                  refine fsub_s fun x210 => ?_
                  refine fmul_s fun x211 => ?_
                  refine fld_s 13666448263388469915 rfl rfl ?_
                  refine fmul_s fun x212 => ?_
                  refine fld_s 4477121864728985349 rfl rfl ?_
                  refine fadd_s fun x213 => ?_
                  refine fmul_s fun x214 => ?_
                  refine fld_s 13732177093698800582 rfl rfl ?_
                  refine fadd_s fun x215 => ?_
                  refine fmul_s fun x216 => ?_
                  refine fld_s 4537941361668146421 rfl rfl ?_
                  refine fadd_s fun x217 => ?_
                  refine fmul_s fun x218 => ?_
                  refine fld_s 13787419979223748497 rfl rfl ?_
                  refine fadd_s fun x219 => ?_
                  refine fmul_s fun x220 => ?_
                  refine fld_s 4586165620538955083 rfl rfl ?_
                  refine fadd_s fun x221 => ?_
                  refine fmul_s fun x222 => ?_
                  refine fadd_s fun x223 => ?_
                  refine fneg_s ?_
                  exact fun hg => ret1 (hR _ (Option.some.inj hg).symm) (fz_sc _ _)
                · refine cond_b (fun _ => ?_) (fun _ => ?_)
                  · refine fmul_s fun x224 => ?_
                    refine fsub_s fun x225 => ?_
                    refine fmul_s fun x226 => ?_
                    refine fld_s 13666448263388469915 rfl rfl ?_
                    refine fmul_s fun x227 => ?_
                    refine fld_s 4477121864728985349 rfl rfl ?_
                    refine fadd_s fun x228 => ?_
                    refine fmul_s fun x229 => ?_
                    refine fld_s 13732177093698800582 rfl rfl ?_
                    refine fadd_s fun x230 => ?_
                    refine fmul_s fun x231 => ?_
                    refine fld_s 4537941361668146421 rfl rfl ?_
                    refine fadd_s fun x232 => ?_
                    refine fmul_s fun x233 => ?_
                    refine fld_s 13787419979223748497 rfl rfl ?_
                    refine fadd_s fun x234 => ?_
                    refine fmul_s fun x235 => ?_
                    refine fld_s 4586165620538955083 rfl rfl ?_
                    refine fadd_s fun x236 => ?_
                    refine fmul_s fun x237 => ?_
                    refine fadd_s fun x238 => ?_
                    refine fneg_s ?_
                    exact fun hg => ret1 (hR _ (Option.some.inj hg).symm) (fz_sc _ _)
                  · refine fmul_s fun x239 => ?_
                    refine fld_s 4460209587652500685 rfl rfl ?_
                    refine fmul_s fun x240 => ?_
                    refine fld_s 13716528389658582877 rfl rfl ?_
                    refine fadd_s fun x241 => ?_
                    refine fmul_s fun x242 => ?_
                    refine fld_s 4523617212962785441 rfl rfl ?_
                    refine fadd_s fun x243 => ?_
                    refine fmul_s fun x244 => ?_
                    refine fld_s 13774824197404483331 rfl rfl ?_
                    refine fadd_s fun x245 => ?_
                    refine fmul_s fun x246 => ?_
                    refine fld_s 4575957461383575504 rfl rfl ?_
                    refine fadd_s fun x247 => ?_
                    refine fmul_s fun x248 => ?_
                    refine fld_s 13818544856648471880 rfl rfl ?_
                    refine fadd_s fun x249 => ?_
                    refine fmul_s fun x250 => ?_
                    refine fadd_s fun x251 => ?_
                    refine fneg_s ?_
                    exact fun hg => ret1 (hR _ (Option.some.inj hg).symm) (fz_sc _ _)
            · refine iq (AV.sc (.int .u64 (bAnd .u64 x156 (7)))) (opA_band _ _) ?_
              refine imp ex_u64_b ?_
              refine fmul_s fun x252 => ?_
              refine fsub_s fun x253 => ?_
              refine fmul_s fun x254 => ?_
              refine fsub_s fun x255 => ?_
              refine fmul_s fun x256 => ?_
              refine fsub_s fun x257 => ?_
              refine cond_b (fun _ => ?_) (fun _ => ?_)
              · refine fmul_s fun x258 => ?_
                refine cond_b (fun _ => ?_) (fun _ => ?_)
                · refine fmul_s fun x259 => ?_
                  refine fsub_s fun x260 => ?_
                  refine fmul_s fun x261 => ?_
                  refine fld_s 13666448263388469915 rfl rfl ?_
                  refine fmul_s fun x262 => ?_
                  refine fld_s 4477121864728985349 rfl rfl ?_
                  refine fadd_s fun x263 => ?_
                  refine fmul_s fun x264 => ?_
                  refine fld_s 13732177093698800582 rfl rfl ?_
                  refine fadd_s fun x265 => ?_
                  refine fmul_s fun x266 => ?_
                  refine fld_s 4537941361668146421 rfl rfl ?_
                  refine fadd_s fun x267 => ?_
                  refine fmul_s fun x268 => ?_
                  refine fld_s 13787419979223748497 rfl rfl ?_
                  refine fadd_s fun x269 => ?_
                  refine fmul_s fun x270 => ?_
                  refine fld_s 4586165620538955083 rfl rfl ?_
                  refine fadd_s fun x271 => ?_
                  refine fmul_s fun x272 => ?_
                  refine fadd_s fun x273 => ?_
                  exact fun hg => ret1 (hR _ (Option.some.inj hg).symm) (fz_sc _ _)
                · refine cond_b (fun _ => ?_) (fun _ => ?_)
                  · refine fmul_s fun x274 => ?_
                    refine fsub_s fun x275 => ?_
                    refine fmul_s fun x276 => ?_
                    refine fld_s 13666448263388469915 rfl rfl ?_
                    refine fmul_s fun x277 => ?_
                    refine fld_s 4477121864728985349 rfl rfl ?_
                    refine fadd_s fun x278 => ?_
                    refine fmul_s fun x279 => ?_
                    refine fld_s 13732177093698800582 rfl rfl ?_
                    refine fadd_s fun x280 => ?_
                    refine fmul_s fun x281 => ?_
                    refine fld_s 4537941361668146421 rfl rfl ?_
                    refine fadd_s fun x282 => ?_
                    refine fmul_s fun x283 => ?_
                    refine fld_s 13787419979223748497 rfl rfl ?_
                    refine fadd_s fun x284 => ?_
                    refine fmul_s fun x285 => ?_
                    refine fld_s 4586165620538955083 rfl rfl ?_
                    refine fadd_s fun x286 => ?_
                    refine fmul_s fun x287 => ?_
                    refine fadd_s fun x288 => ?_
                    exact fun hg => ret1 (hR _ (Option.some.inj hg).symm) (fz_sc _ _)
                  · refine fmul_s fun x289 => ?_
                    refine fld_s 4460209587652500685 rfl rfl ?_
                    refine fmul_s fun x290 => ?_
                    refine fld_s 13716528389658582877 rfl rfl ?_
                    refine fadd_s fun x291 => ?_
                    refine fmul_s fun x292 => ?_
                    refine fld_s 4523617212962785441 rfl rfl ?_
                    refine fadd_s fun x293 => ?_
                    refine fmul_s fun x294 => ?_
                    refine fld_s 13774824197404483331 rfl rfl ?_
                    refine fadd_s fun x295 => ?_
                    refine fmul_s fun x296 => ?_
                    refine fld_s 4575957461383575504 rfl rfl ?_
                    refine fadd_s fun x297 => ?_
                    refine fmul_s fun x298 => ?_
                    refine fld_s 13818544856648471880 rfl rfl ?_
                    refine fadd_s fun x299 => ?_
                    refine fmul_s fun x300 => ?_
                    refine fadd_s fun x301 => ?_
                    exact fun hg => ret1 (hR _ (Option.some.inj hg).symm) (fz_sc _ _)
              · refine fmul_s fun x302 => ?_
                refine cond_b (fun _ => ?_) (fun _ => ?_)
                · refine fmul_s fun x303 => ?_
                  refine fsub_s fun x304 => ?_
                  refine fmul_s fun x305 => ?_
                  refine fld_s 13666448263388469915 rfl rfl ?_
                  refine fmul_s fun x306 => ?_
                  refine fld_s 4477121864728985349 rfl rfl ?_
                  refine fadd_s fun x307 => ?_
                  refine fmul_s fun x308 => ?_
                  refine fld_s 13732177093698800582 rfl rfl ?_
                  refine fadd_s fun x309 => ?_
                  refine fmul_s fun x310 => ?_
                  refine fld_s 4537941361668146421 rfl rfl ?_
                  refine fadd_s fun x311 => ?_
                  refine fmul_s fun x312 => ?_
                  refine fld_s 13787419979223748497 rfl rfl ?_
                  refine fadd_s fun x313 => ?_
                  refine fmul_s fun x314 => ?_
                  refine fld_s 4586165620538955083 rfl rfl ?_
                  refine fadd_s fun x315 => ?_
                  refine fmul_s fun x316 => ?_
                  refine fadd_s fun x317 => ?_
                  refine fneg_s ?_
                  exact fun hg => ret1 (hR _ (Option.some.inj hg).symm) (fz_sc _ _)
                · refine cond_b (fun _ => ?_) (fun _ => ?_)
                  · refine fmul_s fun x318 => ?_
                    refine fsub_s fun x319 => ?_
                    refine fmul_s fun x320 => ?_
                    refine fld_s 13666448263388469915 rfl rfl ?_
                    refine fmul_s fun x321 => ?_
                    refine fld_s 4477121864728985349 rfl rfl ?_
                    refine fadd_s fun x322 => ?_
                    refine fmul_s fun x323 => ?_
                    refine fld_s 13732177093698800582 rfl rfl ?_
                    refine fadd_s fun x324 => ?_
                    refine fmul_s fun x325 => ?_
                    refine fld_s 4537941361668146421 rfl rfl ?_
                    refine fadd_s fun x326 => ?_
                    refine fmul_s fun x327 => ?_
                    refine fld_s 13787419979223748497 rfl rfl ?_
                    refine fadd_s fun x328 => ?_
                    refine fmul_s fun x329 => ?_
                    refine fld_s 4586165620538955083 rfl rfl ?_
                    refine fadd_s fun x330 => ?_
                    refine fmul_s fun x331 => ?_
                    refine fadd_s fun x332 => ?_
                    refine fneg_s ?_
                    exact fun hg => ret1 (hR _ (Option.some.inj hg).symm) (fz_sc _ _)
                  · refine fmul_s fun x333 => ?_
                    refine fld_s 4460209587652500685 rfl rfl ?_
                    refine fmul_s fun x334 => ?_
                    refine fld_s 13716528389658582877 rfl rfl ?_
                    refine fadd_s fun x335 => ?_
                    refine fmul_s fun x336 => ?_
                    refine fld_s 4523617212962785441 rfl rfl ?_
                    refine fadd_s fun x337 => ?_
                    refine fmul_s fun x338 => ?_
                    refine fld_s 13774824197404483331 rfl rfl ?_
                    refine fadd_s fun x339 => ?_
                    refine fmul_s fun x340 => ?_
                    refine fld_s 4575957461383575504 rfl rfl ?_
                    refine fadd_s fun x341 => ?_
                    refine fmul_s fun x342 => ?_
                    refine fld_s 13818544856648471880 rfl rfl ?_
                    refine fadd_s fun x343 => ?_
                    refine fmul_s fun x344 => ?_
                    refine fadd_s fun x345 => ?_
                    refine fneg_s ?_
                    exact fun hg => ret1 (hR _ (Option.some.inj hg).symm) (fz_sc _ _)
        · refine fgeq_s ?_
          refine cond_b (fun _ => ?_) (fun _ => ?_)
          · exact fun h => by cases h
          · refine fmul_s fun x435 => ?_
            refine bind_b fun x436 h436 => ?_
            refine iq (AV.sc (.int .u64 x436)) (opA_f2i (by kernel_rfl) (by kernel_rfl) h436) ?_
            refine imp ex_u64_b ?_
            refine iq (fltA (i2f x436)) (opA_i2f (by kernel_rfl) (by kernel_rfl)) ?_
            refine imp exF_b ?_
            refine iq (AV.sc (.int .u64 (bAnd .u64 x436 (1)))) (opA_band _ _) ?_
            refine imp ex_u64_b ?_
            refine cond_b (fun _ => ?_) (fun _ => ?_)
            · refine fadd_s fun x437 => ?_
              refine iq (AV.sc (.int .u64 (bAnd .u64 (IntKind.wrap .u64 (x436 + (1))) (7)))) (opA_band _ _) ?_
              refine imp ex_u64_b ?_
              refine fmul_s fun x438 => ?_
              refine fsub_s fun x439 => ?_
              refine fmul_s fun x440 => ?_
              refine fsub_s fun x441 => ?_
              refine fmul_s fun x442 => ?_
              refine fsub_s fun x443 => ?_
              refine cond_b (fun _ => ?_) (fun _ => ?_)
              · refine fmul_s fun x444 => ?_
                refine cond_b (fun _ => ?_) (fun _ => ?_)
                · refine fmul_s fun x445 => ?_
                  refine fsub_s fun x446 => ?_
                  refine fmul_s fun x447 => ?_
                  refine fld_s 13666448263388469915 rfl rfl ?_
                  refine fmul_s fun x448 => ?_
                  refine fld_s 4477121864728985349 rfl rfl ?_
                  refine fadd_s fun x449 => ?_
                  refine fmul_s fun x450 => ?_
                  refine fld_s 13732177093698800582 rfl rfl ?_
                  refine fadd_s fun x451 => ?_
                  refine fmul_s fun x452 => ?_
                  refine fld_s 4537941361668146421 rfl rfl ?_
                  refine fadd_s fun x453 => ?_
                  refine fmul_s fun x454 => ?_
                  refine fld_s 13787419979223748497 rfl rfl ?_
                  refine fadd_s fun x455 => ?_
                  refine fmul_s fun x456 => ?_
                  refine fld_s 4586165620538955083 rfl rfl ?_
                  refine fadd_s fun x457 => ?_
                  refine fmul_s fun x458 => ?_
                  refine fadd_s fun x459 => ?_
                  refine fneg_s ?_
                  exact fun hg => ret1 (hR _ (Option.some.inj hg).symm) (fz_sc _ _)
                · refine cond_b (fun _ => ?_) (fun _ => ?_)
                  · refine fmul_s fun x460 => ?_
                    refine fsub_s fun x461 => ?_
                    refine fmul_s fun x462 => ?_
                    refine fld_s 13666448263388469915 rfl rfl ?_
                    refine fmul_s fun x463 => ?_
                    refine fld_s 4477121864728985349 rfl rfl ?_
                    refine fadd_s fun x464 => ?_
                    refine fmul_s fun x465 => ?_
                    refine fld_s 13732177093698800582 rfl rfl ?_
                    refine fadd_s fun x466 => ?_
                    refine fmul_s fun x467 => ?_
                    refine fld_s 4537941361668146421 rfl rfl ?_
                    refine fadd_s fun x468 => ?_
                    refine fmul_s fun x469 => ?_
                    refine fld_s 13787419979223748497 rfl rfl ?_
                    refine fadd_s fun x470 => ?_
                    refine fmul_s fun x471 => ?_
                    refine fld_s 4586165620538955083 rfl rfl ?_
                    refine fadd_s fun x472 => ?_
                    refine fmul_s fun x473 => ?_
                    refine fadd_s fun x474 => ?_
                    refine fneg_s ?_
                    exact fun hg => ret1 (hR _ (Option.some.inj hg).symm) (fz_sc _ _)
                  · refine fmul_s fun x475 => ?_
                    refine fld_s 4460209587652500685 rfl rfl ?_
                    refine fmul_s fun x476 => ?_
                    refine fld_s 13716528389658582877 rfl rfl ?_
                    refine fadd_s fun x477 => ?_
                    refine fmul_s fun x478 => ?_
                    refine fld_s 4523617212962785441 rfl rfl ?_
                    refine fadd_s fun x479 => ?_
                    refine fmul_s fun x480 => ?_
                    refine fld_s 13774824197404483331 rfl rfl ?_
                    refine fadd_s fun x481 => ?_
                    refine fmul_s fun x482 => ?_
                    refine fld_s 4575957461383575504 rfl rfl ?_
                    refine fadd_s fun x483 => ?_
                    refine fmul_s fun x484 => ?_
                    refine fld_s 13818544856648471880 rfl rfl ?_
                    refine fadd_s fun x485 => ?_
                    refine fmul_s fun x486 => ?_
                    refine fadd_s fun x487 => ?_
                    refine fneg_s ?_
                    exact fun hg => ret1 (hR _ (Option.some.inj hg).symm) (fz_sc _ _)
              · refine fmul_s fun x488 => ?_
                refine cond_b (fun _ => ?_) (fun _ => ?_)
                · refine fmul_s fun x489 => ?_
                  refine fsub_s fun x490 => ?_
                  refine fmul_s fun x491 => ?_
                  refine fld_s 13666448263388469915 rfl rfl ?_
                  refine fmul_s fun x492 => ?_
                  refine fld_s 4477121864728985349 rfl rfl ?_
                  refine fadd_s fun x493 => ?_
                  refine fmul_s fun x494 => ?_
                  refine fld_s 13732177093698800582 rfl rfl ?_
                  refine fadd_s fun x495 => ?_
                  refine fmul_s fun x496 => ?_
                  refine fld_s 4537941361668146421 rfl rfl ?_
                  refine fadd_s fun x497 => ?_
                  refine fmul_s fun x498 => ?_
                  refine fld_s 13787419979223748497 rfl rfl ?_
                  refine fadd_s fun x499 => ?_
                  refine fmul_s fun x500 => ?_
                  refine fld_s 4586165620538955083 rfl rfl ?_
                  refine fadd_s fun x501 => ?_
                  refine fmul_s fun x502 => ?_
                  refine fadd_s fun x503 => ?_
                  exact fun hg => ret1 (hR _ (Option.some.inj hg).symm) (fz_sc _ _)
                · refine cond_b (fun _ => ?_) (fun _ => ?_)
                  · refine fmul_s fun x504 => ?_
                    refine fsub_s fun x505 => ?_
                    refine fmul_s fun x506 => ?_
                    refine fld_s 13666448263388469915 rfl rfl ?_
                    refine fmul_s fun x507 => ?_
                    refine fld_s 4477121864728985349 rfl rfl ?_
                    refine fadd_s fun x508 => ?_
                    refine fmul_s fun x509 => ?_
                    refine fld_s 13732177093698800582 rfl rfl ?_
                    refine fadd_s fun x510 => ?_
                    refine fmul_s fun x511 => ?_
                    refine fld_s 4537941361668146421 rfl rfl ?_
                    refine fadd_s fun x512 => ?_
                    refine fmul_s fun x513 => ?_
                    refine fld_s 13787419979223748497 rfl rfl ?_
                    refine fadd_s fun x514 => ?_
                    refine fmul_s fun x515 => ?_
                    refine fld_s 4586165620538955083 rfl rfl ?_
                    refine fadd_s fun x516 => ?_
                    refine fmul_s fun x517 => ?_
                    refine fadd_s fun x518 => ?_
                    exact fun hg => ret1 (hR _ (Option.some.inj hg).symm) (fz_sc _ _)
                  · refine fmul_s fun x519 => ?_
                    refine fld_s 4460209587652500685 rfl rfl ?_
                    refine fmul_s fun x520 => ?_
                    refine fld_s 13716528389658582877 rfl rfl ?_
                    refine fadd_s fun x521 => ?_
                    refine fmul_s fun x522 => ?_
                    refine fld_s 4523617212962785441 rfl rfl ?_
                    refine fadd_s fun x523 => ?_
                    refine fmul_s fun x524 => ?_
                    refine fld_s 13774824197404483331 rfl rfl ?_
                    refine fadd_s fun x525 => ?_
                    refine fmul_s fun x526 => ?_
                    refine fld_s 4575957461383575504 rfl rfl ?_
                    refine fadd_s fun x527 => ?_
                    refine fmul_s fun x528 => ?_
                    refine fld_s 13818544856648471880 rfl rfl ?_
                    refine fadd_s fun x529 => ?_
                    refine fmul_s fun x530 => ?_
                    refine fadd_s fun x531 => ?_
                    exact fun hg => ret1 (hR _ (Option.some.inj hg).symm) (fz_sc _ _)
            · refine iq (AV.sc (.int .u64 (bAnd .u64 x436 (7)))) (opA_band _ _) ?_
              refine imp ex_u64_b ?_
              refine fmul_s fun x532 => ?_
              refine fsub_s fun x533 => ?_
              refine fmul_s fun x534 => ?_
              refine fsub_s fun x535 => ?_
              refine fmul_s fun x536 => ?_
              refine fsub_s fun x537 => ?_
              refine cond_b (fun _ => ?_) (fun _ => ?_)
              · refine fmul_s fun x538 => ?_
                refine cond_b (fun _ => ?_) (fun _ => ?_)
                · refine fmul_s fun x539 => ?_
                  refine fsub_s fun x540 => ?_
                  refine fmul_s fun x541 => ?_
                  refine fld_s 13666448263388469915 rfl rfl ?_
                  refine fmul_s fun x542 => ?_
                  refine fld_s 4477121864728985349 rfl rfl ?_
                  refine fadd_s fun x543 => ?_
                  refine fmul_s fun x544 => ?_
                  refine fld_s 13732177093698800582 rfl rfl ?_
                  refine fadd_s fun x545 => ?_
                  refine fmul_s fun x546 => ?_
                  refine fld_s 4537941361668146421 rfl rfl ?_
                  refine fadd_s fun x547 => ?_
                  refine fmul_s fun x548 => ?_
                  refine fld_s 13787419979223748497 rfl rfl ?_
                  refine fadd_s fun x549 => ?_
                  refine fmul_s fun x550 => ?_
                  refine fld_s 4586165620538955083 rfl rfl ?_
                  refine fadd_s fun x551 => ?_
                  refine fmul_s fun x552 => ?_
                  refine fadd_s fun x553 => ?_
                  refine fneg_s ?_
                  exact fun hg => ret1 (hR _ (Option.some.inj hg).symm) (fz_sc _ _)
                · refine cond_b (fun _ => ?_) (fun _ => ?_)
                  · refine fmul_s fun x554 => ?_
                    refine fsub_s fun x555 => ?_
                    refine fmul_s fun x556 => ?_
                    refine fld_s 13666448263388469915 rfl rfl ?_
                    refine fmul_s fun x557 => ?_
                    refine fld_s 4477121864728985349 rfl rfl ?_
                    refine fadd_s fun x558 => ?_
                    refine fmul_s fun x559 => ?_
                    refine fld_s 13732177093698800582 rfl rfl ?_
                    refine fadd_s fun x560 => ?_
                    refine fmul_s fun x561 => ?_
                    refine fld_s 4537941361668146421 rfl rfl ?_
                    refine fadd_s fun x562 => ?_
                    refine fmul_s fun x563 => ?_
                    refine fld_s 13787419979223748497 rfl rfl ?_
                    refine fadd_s fun x564 => ?_
                    refine fmul_s fun x565 => ?_
                    refine fld_s 4586165620538955083 rfl rfl ?_
                    refine fadd_s fun x566 => ?_
                    refine fmul_s fun x567 => ?_
                    refine fadd_s fun x568 => ?_
                    refine fneg_s ?_
                    exact fun hg => ret1 (hR _ (Option.some.inj hg).symm) (fz_sc _ _)
                  · refine fmul_s fun x569 => ?_
                    refine fld_s 4460209587652500685 rfl rfl ?_
                    refine fmul_s fun x570 => ?_
                    refine fld_s 13716528389658582877 rfl rfl ?_
                    refine fadd_s fun x571 => ?_
                    refine fmul_s fun x572 => ?_
                    refine fld_s 4523617212962785441 rfl rfl ?_
                    refine fadd_s fun x573 => ?_
                    refine fmul_s fun x574 => ?_
                    refine fld_s 13774824197404483331 rfl rfl ?_
                    refine fadd_s fun x575 => ?_
                    refine fmul_s fun x576 => ?_
                    refine fld_s 4575957461383575504 rfl rfl ?_
                    refine fadd_s fun x577 => ?_
                    refine fmul_s fun x578 => ?_
                    refine fld_s 13818544856648471880 rfl rfl ?_
                    refine fadd_s fun x579 => ?_
                    refine fmul_s fun x580 => ?_
                    refine fadd_s fun x581 => ?_
                    refine fneg_s ?_
                    exact fun hg => ret1 (hR _ (Option.some.inj hg).symm) (fz_sc _ _)
              · refine fmul_s fun x582 => ?_
                refine cond_b (fun _ => ?_) (fun _ => ?_)
                · refine fmul_s fun x583 => ?_
                  refine fsub_s fun x584 => ?_
                  refine fmul_s fun x585 => ?_
                  refine fld_s 13666448263388469915 rfl rfl ?_
                  refine fmul_s fun x586 => ?_
                  refine fld_s 4477121864728985349 rfl rfl ?_
                  refine fadd_s fun x587 => ?_
                  refine fmul_s fun x588 => ?_
                  refine fld_s 13732177093698800582 rfl rfl ?_
                  refine fadd_s fun x589 => ?_
                  refine fmul_s fun x590 => ?_
                  refine fld_s 4537941361668146421 rfl rfl ?_
                  refine fadd_s fun x591 => ?_
                  refine fmul_s fun x592 => ?_
                  refine fld_s 13787419979223748497 rfl rfl ?_
                  refine fadd_s fun x593 => ?_
                  refine fmul_s fun x594 => ?_
                  refine fld_s 4586165620538955083 rfl rfl ?_
                  refine fadd_s fun x595 => ?_
                  refine fmul_s fun x596 => ?_
                  refine fadd_s fun x597 => ?_
                  exact fun hg => ret1 (hR _ (Option.some.inj hg).symm) (fz_sc _ _)
                · refine cond_b (fun _ => ?_) (fun _ => ?_)
                  · refine fmul_s fun x598 => ?_
                    refine fsub_s fun x599 => ?_
                    refine fmul_s fun x600 => ?_
                    refine fld_s 13666448263388469915 rfl rfl ?_
                    refine fmul_s fun x601 => ?_
                    refine fld_s 4477121864728985349 rfl rfl ?_
                    refine fadd_s fun x602 => ?_
                    refine fmul_s fun x603 => ?_
                    refine fld_s 13732177093698800582 rfl rfl ?_
                    refine fadd_s fun x604 => ?_
                    refine fmul_s fun x605 => ?_
                    refine fld_s 4537941361668146421 rfl rfl ?_
                    refine fadd_s fun x606 => ?_
                    refine fmul_s fun x607 => ?_
                    refine fld_s 13787419979223748497 rfl rfl ?_
                    refine fadd_s fun x608 => ?_
                    refine fmul_s fun x609 => ?_
                    refine fld_s 4586165620538955083 rfl rfl ?_
                    refine fadd_s fun x610 => ?_
                    refine fmul_s fun x611 => ?_
                    refine fadd_s fun x612 => ?_
                    exact fun hg => ret1 (hR _ (Option.some.inj hg).symm) (fz_sc _ _)
                  · refine fmul_s fun x613 => ?_
                    refine fld_s 4460209587652500685 rfl rfl ?_
                    refine fmul_s fun x614 => ?_
                    refine fld_s 13716528389658582877 rfl rfl ?_
                    refine fadd_s fun x615 => ?_
                    refine fmul_s fun x616 => ?_
                    refine fld_s 4523617212962785441 rfl rfl ?_
                    refine fadd_s fun x617 => ?_
                    refine fmul_s fun x618 => ?_
                    refine fld_s 13774824197404483331 rfl rfl ?_
                    refine fadd_s fun x619 => ?_
                    refine fmul_s fun x620 => ?_
                    refine fld_s 4575957461383575504 rfl rfl ?_
                    refine fadd_s fun x621 => ?_
                    refine fmul_s fun x622 => ?_
                    refine fld_s 13818544856648471880 rfl rfl ?_
                    refine fadd_s fun x623 => ?_
                    refine fmul_s fun x624 => ?_
                    refine fadd_s fun x625 => ?_
                    exact fun hg => ret1 (hR _ (Option.some.inj hg).symm) (fz_sc _ _)
theorem sg130 {n : Nat} {a0 : Nat} {t : ρ130} (h : g130 n a0 = some t) : Says pg KK.gl 130 [(fltA a0)] ((fltA t)) :=
  says_of_own (by first | rfl | simp [cleans, clean, encs_clean, En.cln]) (by first | rfl | simp [cleans, clean, encs_clean, En.cln]) (F130_own a0 _ (g130_ok n a0 (Ans ((fltA t))) (fun r e u m h => by rw [e]; exact h) h))
end Go.Proofs.YteaimbiojpjneaaGreatDoor
