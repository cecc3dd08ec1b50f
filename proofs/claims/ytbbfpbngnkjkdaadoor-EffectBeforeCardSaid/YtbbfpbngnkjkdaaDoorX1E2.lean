/- Plain functional programs out of the program's functions, with proofs that the functions compute them; printed by wip/Ext.lean.txt. -/
import Derived.Test.YtbbfpbngnkjkdaaDoorX1E1
set_option linter.unusedVariables false
set_option linter.unusedSimpArgs false
set_option maxRecDepth 100000
set_option maxHeartbeats 4000000
namespace Go.Proofs.YtbbfpbngnkjkdaaDoor
/- math.sin -/
theorem g65_ok (n : Nat) (a0 : Nat) {t : ρ65} (R : AV → Mem → Prop) (hR : ∀ r : ρ65, t = r → ∀ u m, Ans ((fltA r)) u m → R u m) : g65 n a0 = some t → F65 a0 R := by
  unfold g65 F65
  refine feql_s ?_
  refine cond_b (fun _ => ?_) (fun _ => ?_)
  · exact fun hg => ret1 (hR _ (Option.some.inj hg).symm) (fz_sc _ _)
  · refine bind_b fun x3 h3 => ?_
    refine imp (callQ_says (sg66 h3)) ?_
    refine imp exB_b ?_
    refine cond_b (fun _ => ?_) (fun _ => ?_)
    · exact fun hg => ret1 (hR _ (Option.some.inj hg).symm) (fz_sc _ _)
    · refine bind_b fun x5 h5 => ?_
      refine imp (callQ_says (sg67 h5)) ?_
      refine imp exB_b ?_
      refine cond_b (fun _ => ?_) (fun _ => ?_)
      · refine bind_b fun x6 h6 => ?_
        refine imp (callQ_says (sg68 h6)) ?_
        refine imp exF_b ?_
        exact fun hg => ret1 (hR _ (Option.some.inj hg).symm) (fz_sc _ _)
      · refine flss_s ?_
        refine cond_b (fun _ => ?_) (fun _ => ?_)
        · refine fneg_s ?_
          refine fgeq_s ?_
          refine cond_b (fun _ => ?_) (fun _ => ?_)
          · exact fun h => by cases h
          · refine fmul_s fun x96 => ?_
            refine bind_b fun x97 h97 => ?_
            refine iq (AV.sc (.int .u64 x97)) (opA_f2i (by kernel_rfl) (by kernel_rfl) h97) ?_
            refine imp ex_u64_b ?_
            refine iq (fltA (i2f x97)) (opA_i2f (by kernel_rfl) (by kernel_rfl)) ?_
            refine imp exF_b ?_
            refine iq (AV.sc (.int .u64 (bAnd .u64 x97 (1)))) (opA_band _ _) ?_
            refine imp ex_u64_b ?_
            refine cond_b (fun _ => ?_) (fun _ => ?_)
            · refine fadd_s fun x98 => ?_
              refine iq (AV.sc (.int .u64 (bAnd .u64 (IntKind.wrap .u64 (x97 + (1))) (7)))) (opA_band _ _) ?_
              refine imp ex_u64_b ?_
              refine fmul_s fun x99 => ?_
              refine fsub_s fun x100 => ?_
              refine fmul_s fun x101 => ?_
              refine fsub_s fun x102 => ?_
              refine fmul_s fun x103 => ?_
              refine fsub_s fun x104 => ?_
              refine cond_b (fun _ => ?_) (fun _ => ?_)
              · refine fmul_s fun x105 => ?_
                refine cond_b (fun _ => ?_) (fun _ => ?_)
                · refine fmul_s fun x106 => ?_
                  refine fsub_s fun x107 => ?_
                  refine fmul_s fun x108 => ?_
                  refine fld_s 13666448263388469915 rfl rfl ?_
                  refine fmul_s fun x109 => ?_
                  refine fld_s 4477121864728985349 rfl rfl ?_
                  refine fadd_s fun x110 => ?_
                  refine fmul_s fun x111 => ?_
                  refine fld_s 13732177093698800582 rfl rfl ?_
                  refine fadd_s fun x112 => ?_
                  refine fmul_s fun x113 => ?_
                  refine fld_s 4537941361668146421 rfl rfl ?_
                  refine fadd_s fun x114 => ?_
                  refine fmul_s fun x115 => ?_
                  refine fld_s 13787419979223748497 rfl rfl ?_
                  refine fadd_s fun x116 => ?_
                  refine fmul_s fun x117 => ?_
                  refine fld_s 4586165620538955083 rfl rfl ?_
                  refine fadd_s fun x118 => ?_
                  refine fmul_s fun x119 => ?_
                  refine fadd_s fun x120 => ?_
                  exact fun hg => ret1 (hR _ (Option.some.inj hg).symm) (fz_sc _ _)
                · refine cond_b (fun _ => ?_) (fun _ => ?_)
                  · refine fmul_s fun x121 => ?_
                    refine fsub_s fun x122 => ?_
                    refine fmul_s fun x123 => ?_
                    refine fld_s 13666448263388469915 rfl rfl ?_
                    refine fmul_s fun x124 => ?_
                    refine fld_s 4477121864728985349 rfl rfl ?_
                    refine fadd_s fun x125 => ?_
                    refine fmul_s fun x126 => ?_
                    refine fld_s 13732177093698800582 rfl rfl ?_
                    refine fadd_s fun x127 => ?_
                    refine fmul_s fun x128 => ?_
                    refine fld_s 4537941361668146421 rfl rfl ?_
                    refine fadd_s fun x129 => ?_
                    refine fmul_s fun x130 => ?_
                    refine fld_s 13787419979223748497 rfl rfl ?_
                    refine fadd_s fun x131 => ?_
                    refine fmul_s fun x132 => ?_
                    refine fld_s 4586165620538955083 rfl rfl ?_
                    refine fadd_s fun x133 => ?_
                    refine fmul_s fun x134 => ?_
                    refine fadd_s fun x135 => ?_
                    exact fun hg => ret1 (hR _ (Option.some.inj hg).symm) (fz_sc _ _)
                  · refine fmul_s fun x136 => ?_
                    refine fld_s 4460209587652500685 rfl rfl ?_
                    refine fmul_s fun x137 => ?_
                    refine fld_s 13716528389658582877 rfl rfl ?_
                    refine fadd_s fun x138 => ?_
                    refine fmul_s fun x139 => ?_
                    refine fld_s 4523617212962785441 rfl rfl ?_
                    refine fadd_s fun x140 => ?_
                    refine fmul_s fun x141 => ?_
                    refine fld_s 13774824197404483331 rfl rfl ?_
                    refine fadd_s fun x142 => ?_
                    refine fmul_s fun x143 => ?_
                    refine fld_s 4575957461383575504 rfl rfl ?_
                    refine fadd_s fun x144 => ?_
                    refine fmul_s fun x145 => ?_
                    refine fld_s 13818544856648471880 rfl rfl ?_
                    refine fadd_s fun x146 => ?_
                    refine fmul_s fun x147 => ?_
                    refine fadd_s fun x148 => ?_
                    exact fun hg => ret1 (hR _ (Option.some.inj hg).symm) (fz_sc _ _)
              · refine fmul_s fun x149 => ?_
                refine cond_b (fun _ => ?_) (fun _ => ?_)
                · refine fmul_s fun x150 => ?_
                  refine fsub_s fun x151 => ?_
                  refine fmul_s fun x152 => ?_
                  refine fld_s 13666448263388469915 rfl rfl ?_
                  refine fmul_s fun x153 => ?_
                  refine fld_s 4477121864728985349 rfl rfl ?_
                  refine fadd_s fun x154 => ?_
                  refine fmul_s fun x155 => ?_
                  refine fld_s 13732177093698800582 rfl rfl ?_
                  refine fadd_s fun x156 => ?_
                  refine fmul_s fun x157 => ?_
                  refine fld_s 4537941361668146421 rfl rfl ?_
                  refine fadd_s fun x158 => ?_
                  refine fmul_s fun x159 => ?_
                  refine fld_s 13787419979223748497 rfl rfl ?_
                  refine fadd_s fun x160 => ?_
                  refine fmul_s fun x161 => ?_
                  refine fld_s 4586165620538955083 rfl rfl ?_
                  refine fadd_s fun x162 => ?_
                  refine fmul_s fun x163 => ?_
                  refine fadd_s fun x164 => ?_
                  refine fneg_s ?_
                  exact fun hg => ret1 (hR _ (Option.some.inj hg).symm) (fz_sc _ _)
                · refine cond_b (fun _ => ?_) (fun _ => ?_)
                  · refine fmul_s fun x165 => ?_
                    refine fsub_s fun x166 => ?_
                    refine fmul_s fun x167 => ?_
                    refine fld_s 13666448263388469915 rfl rfl ?_
                    refine fmul_s fun x168 => ?_
                    refine fld_s 4477121864728985349 rfl rfl ?_
                    refine fadd_s fun x169 => ?_
                    refine fmul_s fun x170 => ?_
                    refine fld_s 13732177093698800582 rfl rfl ?_
                    refine fadd_s fun x171 => ?_
                    refine fmul_s fun x172 => ?_
                    refine fld_s 4537941361668146421 rfl rfl ?_
                    refine fadd_s fun x173 => ?_
                    refine fmul_s fun x174 => ?_
                    refine fld_s 13787419979223748497 rfl rfl ?_
                    refine fadd_s fun x175 => ?_
                    refine fmul_s fun x176 => ?_
                    refine fld_s 4586165620538955083 rfl rfl ?_
                    refine fadd_s fun x177 => ?_
                    refine fmul_s fun x178 => ?_
                    refine fadd_s fun x179 => ?_
                    refine fneg_s ?_
                    exact fun hg => ret1 (hR _ (Option.some.inj hg).symm) (fz_sc _ _)
                  · refine fmul_s fun x180 => ?_
                    refine fld_s 4460209587652500685 rfl rfl ?_
                    refine fmul_s fun x181 => ?_
                    refine fld_s 13716528389658582877 rfl rfl ?_
                    refine fadd_s fun x182 => ?_
                    refine fmul_s fun x183 => ?_
                    refine fld_s 4523617212962785441 rfl rfl ?_
                    refine fadd_s fun x184 => ?_
                    refine fmul_s fun x185 => ?_
                    refine fld_s 13774824197404483331 rfl rfl ?_
                    refine fadd_s fun x186 => ?_
                    refine fmul_s fun x187 => ?_
                    refine fld_s 4575957461383575504 rfl rfl ?_
                    refine fadd_s fun x188 => ?_
                    refine fmul_s fun x189 => ?_
                    refine fld_s 13818544856648471880 rfl rfl ?_
                    refine fadd_s fun x190 => ?_
                    refine fmul_s fun x191 => ?_
                    refine fadd_s fun x192 => ?_
                    refine fneg_s ?_
                    exact fun hg => ret1 (hR _ (Option.some.inj hg).symm) (fz_sc _ _)
            · refine iq (AV.sc (.int .u64 (bAnd .u64 x97 (7)))) (opA_band _ _) ?_
              refine imp ex_u64_b ?_
              refine fmul_s fun x193 => ?_
              refine fsub_s fun x194 => ?_
              refine fmul_s fun x195 => ?_
              refine fsub_s fun x196 => ?_
              refine fmul_s fun x197 => ?_
              refine fsub_s fun x198 => ?_
              refine cond_b (fun _ => ?_) (fun _ => ?_)
              · refine fmul_s fun x199 => ?_
                refine cond_b (fun _ => ?_) (fun _ => ?_)
                · refine fmul_s fun x200 => ?_
                  refine fsub_s fun x201 => ?_
                  refine fmul_s fun x202 => ?_
                  refine fld_s 13666448263388469915 rfl rfl ?_
                  refine fmul_s fun x203 => ?_
                  refine fld_s 4477121864728985349 rfl rfl ?_
                  refine fadd_s fun x204 => ?_
                  refine fmul_s fun x205 => ?_
                  refine fld_s 13732177093698800582 rfl rfl ?_
                  refine fadd_s fun x206 => ?_
                  refine fmul_s fun x207 => ?_
                  refine fld_s 4537941361668146421 rfl rfl ?_
                  refine fadd_s fun x208 => ?_
                  refine fmul_s fun x209 => ?_
                  refine fld_s 13787419979223748497 rfl rfl ?_
                  refine fadd_s fun x210 => ?_
                  refine fmul_s fun x211 => ?_
                  refine fld_s 4586165620538955083 rfl rfl ?_
                  refine fadd_s fun x212 => ?_
                  refine fmul_s fun x213 => ?_
                  refine fadd_s fun x214 => ?_
                  exact fun hg => ret1 (hR _ (Option.some.inj hg).symm) (fz_sc _ _)
                · refine cond_b (fun _ => ?_) (fun _ => ?_)
                  · refine fmul_s fun x215 => ?_
                    refine fsub_s fun x216 => ?_
                    refine fmul_s fun x217 => ?_
                    refine fld_s 13666448263388469915 rfl rfl ?_
                    refine fmul_s fun x218 => ?_
                    refine fld_s 4477121864728985349 rfl rfl ?_
                    refine fadd_s fun x219 => ?_
                    refine fmul_s fun x220 => ?_
                    refine fld_s 13732177093698800582 rfl rfl ?_
                    refine fadd_s fun x221 => ?_
                    refine fmul_s fun x222 => ?_
                    refine fld_s 4537941361668146421 rfl rfl ?_
                    refine fadd_s fun x223 => ?_
                    refine fmul_s fun x224 => ?_
                    refine fld_s 13787419979223748497 rfl rfl ?_
                    refine fadd_s fun x225 => ?_
                    refine fmul_s fun x226 => ?_
                    refine fld_s 4586165620538955083 rfl rfl ?_
                    refine fadd_s fun x227 => ?_
                    refine fmul_s fun x228 => ?_
                    refine fadd_s fun x229 => ?_
                    exact fun hg => ret1 (hR _ (Option.some.inj hg).symm) (fz_sc _ _)
                  · refine fmul_s fun x230 => ?_
                    refine fld_s 4460209587652500685 rfl rfl ?_
                    refine fmul_s fun x231 => ?_
                    refine fld_s 13716528389658582877 rfl rfl ?_
                    refine fadd_s fun x232 => ?_
                    refine fmul_s fun x233 => ?_
                    refine fld_s 4523617212962785441 rfl rfl ?_
                    refine fadd_s fun x234 => ?_
                    refine fmul_s fun x235 => ?_
                    refine fld_s 13774824197404483331 rfl rfl ?_
                    refine fadd_s fun x236 => ?_
                    refine fmul_s fun x237 => ?_
                    refine fld_s 4575957461383575504 rfl rfl ?_
                    refine fadd_s fun x238 => ?_
                    refine fmul_s fun x239 => ?_
                    refine fld_s 13818544856648471880 rfl rfl ?_
                    refine fadd_s fun x240 => ?_
                    refine fmul_s fun x241 => ?_
                    refine fadd_s fun x242 => ?_
                    exact fun hg => ret1 (hR _ (Option.some.inj hg).symm) (fz_sc _ _)
              · refine fmul_s fun x243 => ?_
                refine cond_b (fun _ => ?_) (fun _ => ?_)
                · refine fmul_s fun x244 => ?_
                  refine fsub_s fun x245 => ?_
                  refine fmul_s fun x246 => ?_
                  refine fld_s 13666448263388469915 rfl rfl ?_
                  refine fmul_s fun x247 => ?_
                  refine fld_s 4477121864728985349 rfl rfl ?_
                  refine fadd_s fun x248 => ?_
                  refine fmul_s fun x249 => ?_
                  refine fld_s 13732177093698800582 rfl rfl ?_
                  refine fadd_s fun x250 => ?_
                  refine fmul_s fun x251 => ?_
                  refine fld_s 4537941361668146421 rfl rfl ?_
                  refine fadd_s fun x252 => ?_
                  refine fmul_s fun x253 => ?_
                  refine fld_s 13787419979223748497 rfl rfl ?_
                  refine fadd_s fun x254 => ?_
                  refine fmul_s fun x255 => ?_
                  refine fld_s 4586165620538955083 rfl rfl ?_
                  refine fadd_s fun x256 => ?_
                  refine fmul_s fun x257 => ?_
                  refine fadd_s fun x258 => ?_
                  refine fneg_s ?_
                  exact fun hg => ret1 (hR _ (Option.some.inj hg).symm) (fz_sc _ _)
                · refine cond_b (fun _ => ?_) (fun _ => ?_)
                  · refine fmul_s fun x259 => ?_
                    refine fsub_s fun x260 => ?_
                    refine fmul_s fun x261 => ?_
                    refine fld_s 13666448263388469915 rfl rfl ?_
                    refine fmul_s fun x262 => ?_
                    refine fld_s 4477121864728985349 rfl rfl ?_
                    refine fadd_s fun x263 => ?_
                    refine fmul_s fun x264 => ?_
                    refine fld_s 13732177093698800582 rfl rfl ?_
                    refine fadd_s fun x265 => ?_
                    refine fmul_s fun x266 => ?_
                    refine fld_s 4537941361668146421 rfl rfl ?_
                    refine fadd_s fun x267 => ?_
                    refine fmul_s fun x268 => ?_
                    refine fld_s 13787419979223748497 rfl rfl ?_
                    refine fadd_s fun x269 => ?_
                    refine fmul_s fun x270 => ?_
                    refine fld_s 4586165620538955083 rfl rfl ?_
                    refine fadd_s fun x271 => ?_
                    refine fmul_s fun x272 => ?_
                    refine fadd_s fun x273 => ?_
                    refine fneg_s ?_
                    exact fun hg => ret1 (hR _ (Option.some.inj hg).symm) (fz_sc _ _)
                  · refine fmul_s fun x274 => ?_
                    refine fld_s 4460209587652500685 rfl rfl ?_
                    refine fmul_s fun x275 => ?_
                    refine fld_s 13716528389658582877 rfl rfl ?_
                    refine fadd_s fun x276 => ?_
                    refine fmul_s fun x277 => ?_
                    refine fld_s 4523617212962785441 rfl rfl ?_
                    refine fadd_s fun x278 => ?_
                    refine fmul_s fun x279 => ?_
                    refine fld_s 13774824197404483331 rfl rfl ?_
                    refine fadd_s fun x280 => ?_
                    refine fmul_s fun x281 => ?_
                    refine fld_s 4575957461383575504 rfl rfl ?_
                    refine fadd_s fun x282 => ?_
                    refine fmul_s fun x283 => ?_
                    refine fld_s 13818544856648471880 rfl rfl ?_
                    refine fadd_s fun x284 => ?_
                    refine fmul_s fun x285 => ?_
                    refine fadd_s fun x286 => ?_
                    refine fneg_s ?_
                    exact fun hg => ret1 (hR _ (Option.some.inj hg).symm) (fz_sc _ _)
        · refine fgeq_s ?_
          refine cond_b (fun _ => ?_) (fun _ => ?_)
          · exact fun h => by cases h
          · refine fmul_s fun x376 => ?_
            refine bind_b fun x377 h377 => ?_
            refine iq (AV.sc (.int .u64 x377)) (opA_f2i (by kernel_rfl) (by kernel_rfl) h377) ?_
            refine imp ex_u64_b ?_
            refine iq (fltA (i2f x377)) (opA_i2f (by kernel_rfl) (by kernel_rfl)) ?_
            refine imp exF_b ?_
            refine iq (AV.sc (.int .u64 (bAnd .u64 x377 (1)))) (opA_band _ _) ?_
            refine imp ex_u64_b ?_
            refine cond_b (fun _ => ?_) (fun _ => ?_)
            · refine fadd_s fun x378 => ?_
              refine iq (AV.sc (.int .u64 (bAnd .u64 (IntKind.wrap .u64 (x377 + (1))) (7)))) (opA_band _ _) ?_
              refine imp ex_u64_b ?_
              refine fmul_s fun x379 => ?_
              refine fsub_s fun x380 => ?_
              refine fmul_s fun x381 => ?_
              refine fsub_s fun x382 => ?_
              refine fmul_s fun x383 => ?_
              refine fsub_s fun x384 => ?_
              refine cond_b (fun _ => ?_) (fun _ => ?_)
              · refine fmul_s fun x385 => ?_
                refine cond_b (fun _ => ?_) (fun _ => ?_)
                · refine fmul_s fun x386 => ?_
                  refine fsub_s fun x387 => ?_
                  refine fmul_s fun x388 => ?_
                  refine fld_s 13666448263388469915 rfl rfl ?_
                  refine fmul_s fun x389 => ?_
                  refine fld_s 4477121864728985349 rfl rfl ?_
                  refine fadd_s fun x390 => ?_
                  refine fmul_s fun x391 => ?_
                  refine fld_s 13732177093698800582 rfl rfl ?_
                  refine fadd_s fun x392 => ?_
                  refine fmul_s fun x393 => ?_
                  refine fld_s 4537941361668146421 rfl rfl ?_
                  refine fadd_s fun x394 => ?_
                  refine fmul_s fun x395 => ?_
                  refine fld_s 13787419979223748497 rfl rfl ?_
                  refine fadd_s fun x396 => ?_
                  refine fmul_s fun x397 => ?_
                  refine fld_s 4586165620538955083 rfl rfl ?_
                  refine fadd_s fun x398 => ?_
                  refine fmul_s fun x399 => ?_
                  refine fadd_s fun x400 => ?_
                  refine fneg_s ?_
                  exact fun hg => ret1 (hR _ (Option.some.inj hg).symm) (fz_sc _ _)
                · refine cond_b (fun _ => ?_) (fun _ => ?_)
                  · refine fmul_s fun x401 => ?_
                    refine fsub_s fun x402 => ?_
                    refine fmul_s fun x403 => ?_
                    refine fld_s 13666448263388469915 rfl rfl ?_
                    refine fmul_s fun x404 => ?_
                    refine fld_s 4477121864728985349 rfl rfl ?_
                    refine fadd_s fun x405 => ?_
                    refine fmul_s fun x406 => ?_
                    refine fld_s 13732177093698800582 rfl rfl ?_
                    refine fadd_s fun x407 => ?_
                    refine fmul_s fun x408 => ?_
                    refine fld_s 4537941361668146421 rfl rfl ?_
                    refine fadd_s fun x409 => ?_
                    refine fmul_s fun x410 => ?_
                    refine fld_s 13787419979223748497 rfl rfl ?_
                    refine fadd_s fun x411 => ?_
                    refine fmul_s fun x412 => ?_
                    refine fld_s 4586165620538955083 rfl rfl ?_
                    refine fadd_s fun x413 => ?_
                    refine fmul_s fun x414 => ?_
                    refine fadd_s fun x415 => ?_
                    refine fneg_s ?_
                    exact fun hg => ret1 (hR _ (Option.some.inj hg).symm) (fz_sc _ _)
                  · refine fmul_s fun x416 => ?_
                    refine fld_s 4460209587652500685 rfl rfl ?_
                    refine fmul_s fun x417 => ?_
                    refine fld_s 13716528389658582877 rfl rfl ?_
                    refine fadd_s fun x418 => ?_
                    refine fmul_s fun x419 => ?_
                    refine fld_s 4523617212962785441 rfl rfl ?_
                    refine fadd_s fun x420 => ?_
                    refine fmul_s fun x421 => ?_
                    refine fld_s 13774824197404483331 rfl rfl ?_
                    refine fadd_s fun x422 => ?_
                    refine fmul_s fun x423 => ?_
                    refine fld_s 4575957461383575504 rfl rfl ?_
                    refine fadd_s fun x424 => ?_
                    refine fmul_s fun x425 => ?_
                    refine fld_s 13818544856648471880 rfl rfl ?_
                    refine fadd_s fun x426 => ?_
                    refine fmul_s fun x427 => ?_
                    refine fadd_s fun x428 => ?_
                    refine fneg_s ?_
                    exact fun hg => ret1 (hR _ (Option.some.inj hg).symm) (fz_sc _ _)
              · refine fmul_s fun x429 => ?_
                refine cond_b (fun _ => ?_) (fun _ => ?_)
                · refine fmul_s fun x430 => ?_
                  refine fsub_s fun x431 => ?_
                  refine fmul_s fun x432 => ?_
                  refine fld_s 13666448263388469915 rfl rfl ?_
                  refine fmul_s fun x433 => ?_
                  refine fld_s 4477121864728985349 rfl rfl ?_
                  refine fadd_s fun x434 => ?_
                  refine fmul_s fun x435 => ?_
                  refine fld_s 13732177093698800582 rfl rfl ?_
                  refine fadd_s fun x436 => ?_
                  refine fmul_s fun x437 => ?_
                  refine fld_s 4537941361668146421 rfl rfl ?_
                  refine fadd_s fun x438 => ?_
                  refine fmul_s fun x439 => ?_
                  refine fld_s 13787419979223748497 rfl rfl ?_
                  refine fadd_s fun x440 => ?_
                  refine fmul_s fun x441 => ?_
                  refine fld_s 4586165620538955083 rfl rfl ?_
                  refine fadd_s fun x442 => ?_
                  refine fmul_s fun x443 => ?_
                  refine fadd_s fun x444 => ?_
                  exact fun hg => ret1 (hR _ (Option.some.inj hg).symm) (fz_sc _ _)
                · refine cond_b (fun _ => ?_) (fun _ => ?_)
                  · refine fmul_s fun x445 => ?_
                    refine fsub_s fun x446 => ?_
                    refine fmul_s fun x447 => ?_
                    refine fld_s 13666448263388469915 rfl rfl ?_
                    refine fmul_s fun x448 => ?_
                    refine fld_s 4477121864728985349 rfl rfl ?_
                    refine fadd_s fun x449 => ?_
                    refine fmul_s fun x450 => ?_
                    refine fld_s 13732177093698800582 rfl rfl ?_
                    refine fadd_s fun x451 => ?_
                    refine fmul_s fun x452 => ?_
                    refine fld_s 4537941361668146421 rfl rfl ?_
                    refine fadd_s fun x453 => ?_
                    refine fmul_s fun x454 => ?_
                    refine fld_s 13787419979223748497 rfl rfl ?_
                    refine fadd_s fun x455 => ?_
                    refine fmul_s fun x456 => ?_
                    refine fld_s 4586165620538955083 rfl rfl ?_
                    refine fadd_s fun x457 => ?_
                    refine fmul_s fun x458 => ?_
                    refine fadd_s fun x459 => ?_
                    exact fun hg => ret1 (hR _ (Option.some.inj hg).symm) (fz_sc _ _)
                  · refine fmul_s fun x460 => ?_
                    refine fld_s 4460209587652500685 rfl rfl ?_
                    refine fmul_s fun x461 => ?_
                    refine fld_s 13716528389658582877 rfl rfl ?_
                    refine fadd_s fun x462 => ?_
                    refine fmul_s fun x463 => ?_
                    refine fld_s 4523617212962785441 rfl rfl ?_
                    refine fadd_s fun x464 => ?_
                    refine fmul_s fun x465 => ?_
                    refine fld_s 13774824197404483331 rfl rfl ?_
                    refine fadd_s fun x466 => ?_
                    refine fmul_s fun x467 => ?_
                    refine fld_s 4575957461383575504 rfl rfl ?_
                    refine fadd_s fun x468 => ?_
                    refine fmul_s fun x469 => ?_
                    refine fld_s 13818544856648471880 rfl rfl ?_
                    refine fadd_s fun x470 => ?_
                    refine fmul_s fun x471 => ?_
                    refine fadd_s fun x472 => ?_
                    exact fun hg => ret1 (hR _ (Option.some.inj hg).symm) (fz_sc _ _)
            · refine iq (AV.sc (.int .u64 (bAnd .u64 x377 (7)))) (opA_band _ _) ?_
              refine imp ex_u64_b ?_
              refine fmul_s fun x473 => ?_
              refine fsub_s fun x474 => ?_
              refine fmul_s fun x475 => ?_
              refine fsub_s fun x476 => ?_
              refine fmul_s fun x477 => ?_
              refine fsub_s fun x478 => ?_
              refine cond_b (fun _ => ?_) (fun _ => ?_)
              · refine fmul_s fun x479 => ?_
                refine cond_b (fun _ => ?_) (fun _ => ?_)
                · refine fmul_s fun x480 => ?_
                  refine fsub_s fun x481 => ?_
                  refine fmul_s fun x482 => ?_
                  refine fld_s 13666448263388469915 rfl rfl ?_
                  refine fmul_s fun x483 => ?_
                  refine fld_s 4477121864728985349 rfl rfl ?_
                  refine fadd_s fun x484 => ?_
                  refine fmul_s fun x485 => ?_
                  refine fld_s 13732177093698800582 rfl rfl ?_
                  refine fadd_s fun x486 => ?_
                  refine fmul_s fun x487 => ?_
                  refine fld_s 4537941361668146421 rfl rfl ?_
                  refine fadd_s fun x488 => ?_
                  refine fmul_s fun x489 => ?_
                  refine fld_s 13787419979223748497 rfl rfl ?_
                  refine fadd_s fun x490 => ?_
                  refine fmul_s fun x491 => ?_
                  refine fld_s 4586165620538955083 rfl rfl ?_
                  refine fadd_s fun x492 => ?_
                  refine fmul_s fun x493 => ?_
                  refine fadd_s fun x494 => ?_
                  refine fneg_s ?_
                  exact fun hg => ret1 (hR _ (Option.some.inj hg).symm) (fz_sc _ _)
                · refine cond_b (fun _ => ?_) (fun _ => ?_)
                  · refine fmul_s fun x495 => ?_
                    refine fsub_s fun x496 => ?_
                    refine fmul_s fun x497 => ?_
                    refine fld_s 13666448263388469915 rfl rfl ?_
                    refine fmul_s fun x498 => ?_
                    refine fld_s 4477121864728985349 rfl rfl ?_
                    refine fadd_s fun x499 => ?_
                    refine fmul_s fun x500 => ?_
                    refine fld_s 13732177093698800582 rfl rfl ?_
                    refine fadd_s fun x501 => ?_
                    refine fmul_s fun x502 => ?_
                    refine fld_s 4537941361668146421 rfl rfl ?_
                    refine fadd_s fun x503 => ?_
                    refine fmul_s fun x504 => ?_
                    refine fld_s 13787419979223748497 rfl rfl ?_
                    refine fadd_s fun x505 => ?_
                    refine fmul_s fun x506 => ?_
                    refine fld_s 4586165620538955083 rfl rfl ?_
                    refine fadd_s fun x507 => ?_
                    refine fmul_s fun x508 => ?_
                    refine fadd_s fun x509 => ?_
                    refine fneg_s ?_
                    exact fun hg => ret1 (hR _ (Option.some.inj hg).symm) (fz_sc _ _)
                  · refine fmul_s fun x510 => ?_
                    refine fld_s 4460209587652500685 rfl rfl ?_
                    refine fmul_s fun x511 => ?_
                    refine fld_s 13716528389658582877 rfl rfl ?_
                    refine fadd_s fun x512 => ?_
                    refine fmul_s fun x513 => ?_
                    refine fld_s 4523617212962785441 rfl rfl ?_
                    refine fadd_s fun x514 => ?_
                    refine fmul_s fun x515 => ?_
                    refine fld_s 13774824197404483331 rfl rfl ?_
                    refine fadd_s fun x516 => ?_
                    refine fmul_s fun x517 => ?_
                    refine fld_s 4575957461383575504 rfl rfl ?_
                    refine fadd_s fun x518 => ?_
                    refine fmul_s fun x519 => ?_
                    refine fld_s 13818544856648471880 rfl rfl ?_
                    refine fadd_s fun x520 => ?_
                    refine fmul_s fun x521 => ?_
                    refine fadd_s fun x522 => ?_
                    refine fneg_s ?_
                    exact fun hg => ret1 (hR _ (Option.some.inj hg).symm) (fz_sc _ _)
              · refine fmul_s fun x523 => ?_
                refine cond_b (fun _ => ?_) (fun _ => ?_)
                · refine fmul_s fun x524 => ?_
                  refine fsub_s fun x525 => ?_
                  refine fmul_s fun x526 => ?_
                  refine fld_s 13666448263388469915 rfl rfl ?_
                  refine fmul_s fun x527 => ?_
                  refine fld_s 4477121864728985349 rfl rfl ?_
                  refine fadd_s fun x528 => ?_
                  refine fmul_s fun x529 => ?_
                  refine fld_s 13732177093698800582 rfl rfl ?_
                  refine fadd_s fun x530 => ?_
                  refine fmul_s fun x531 => ?_
                  refine fld_s 4537941361668146421 rfl rfl ?_
                  refine fadd_s fun x532 => ?_
                  refine fmul_s fun x533 => ?_
                  refine fld_s 13787419979223748497 rfl rfl ?_
                  refine fadd_s fun x534 => ?_
                  refine fmul_s fun x535 => ?_
                  refine fld_s 4586165620538955083 rfl rfl ?_
                  refine fadd_s fun x536 => ?_
                  refine fmul_s fun x537 => ?_
                  refine fadd_s fun x538 => ?_
                  exact fun hg => ret1 (hR _ (Option.some.inj hg).symm) (fz_sc _ _)
                · refine cond_b (fun _ => ?_) (fun _ => ?_)
                  · refine fmul_s fun x539 => ?_
                    refine fsub_s fun x540 => ?_
                    refine fmul_s fun x541 => ?_
                    refine fld_s 13666448263388469915 rfl rfl ?_
                    refine fmul_s fun x542 => ?_
                    refine fld_s 4477121864728985349 rfl rfl ?_
                    refine fadd_s fun x543 => ?_
                    refine fmul_s fun x544 => ?_
                    refine fld_s 13732177093698800582 rfl rfl ?_
                    refine fadd_s fun x545 => ?_
                    refine fmul_s fun x546 => ?_
                    refine fld_s 4537941361668146421 rfl rfl ?_
                    refine fadd_s fun x547 => ?_
                    refine fmul_s fun x548 => ?_
                    refine fld_s 13787419979223748497 rfl rfl ?_
                    refine fadd_s fun x549 => ?_
                    refine fmul_s fun x550 => ?_
                    refine fld_s 4586165620538955083 rfl rfl ?_
                    refine fadd_s fun x551 => ?_
                    refine fmul_s fun x552 => ?_
                    refine fadd_s fun x553 => ?_
                    exact fun hg => ret1 (hR _ (Option.some.inj hg).symm) (fz_sc _ _)
                  · refine fmul_s fun x554 => ?_
                    refine fld_s 4460209587652500685 rfl rfl ?_
                    refine fmul_s fun x555 => ?_
                    refine fld_s 13716528389658582877 rfl rfl ?_
                    refine fadd_s fun x556 => ?_
                    refine fmul_s fun x557 => ?_
                    refine fld_s 4523617212962785441 rfl rfl ?_
                    refine fadd_s fun x558 => ?_
                    refine fmul_s fun x559 => ?_
                    refine fld_s 13774824197404483331 rfl rfl ?_
                    refine fadd_s fun x560 => ?_
                    refine fmul_s fun x561 => ?_
                    refine fld_s 4575957461383575504 rfl rfl ?_
                    refine fadd_s fun x562 => ?_
                    refine fmul_s fun x563 => ?_
                    refine fld_s 13818544856648471880 rfl rfl ?_
                    refine fadd_s fun x564 => ?_
                    refine fmul_s fun x565 => ?_
                    refine fadd_s fun x566 => ?_
                    exact fun hg => ret1 (hR _ (Option.some.inj hg).symm) (fz_sc _ _)
theorem sg65 {n : Nat} {a0 : Nat} {t : ρ65} (h : g65 n a0 = some t) : Says pg KK.gl 65 [(fltA a0)] ((fltA t)) :=
  says_of_own (by first | rfl | simp [cleans, clean, encs_clean, En.cln]) (by first | rfl | simp [cleans, clean, encs_clean, En.cln]) (F65_own a0 _ (g65_ok n a0 (Ans ((fltA t))) (fun r e u m h => by rw [e]; exact h) h))
end Go.Proofs.YtbbfpbngnkjkdaaDoor
