/- Plain functional programs out of the program's functions; printed by wip/Ext.lean.txt. -/
import Derived.Test.YtbbfpbngnkjkdaaDoorX1T
import Derived.Test.YtbbfpbngnkjkdaaDoorPJ
import Derived.Test.YtbbfpbngnkjkdaaDoorPL
import Derived.Test.YtbbfpbngnkjkdaaDoorPm
set_option linter.unusedVariables false
set_option linter.unusedSimpArgs false
set_option maxRecDepth 100000
set_option maxHeartbeats 4000000
namespace Go.Proofs.YtbbfpbngnkjkdaaDoor
abbrev ρ59 := (Int)
def g59 (n : Nat) (a0 : Int) : Option ρ59 :=
some (Int.tmod (IntKind.wrap .i64 ((Int.tmod a0 (4096)) + (4096))) (4096))
abbrev ρ66 := (Bool)
def g66 (n : Nat) (a0 : Nat) : Option ρ66 :=
some (fNe a0 a0)
abbrev ρ70 := (Nat)
def g70 (n : Nat) (a0 : Nat) : Option ρ70 :=
some (Int.toNat (bAndNot .u64 (a0 : Int) (9223372036854775808)))
abbrev ρ67 := (Bool)
def g67 (n : Nat) (a0 : Nat) (a1 : Int) : Option ρ67 :=
bif (a1 == (0)) then (
(g70 n a0).bind fun x4 =>
some (fGt x4 9218868437227405311)) else (
bif (decide (a1 < (0))) then (
some (fGt (fNeg a0) 9218868437227405311)) else (
some (fGt a0 9218868437227405311)))
abbrev ρ68 := (Nat)
def g68 (n : Nat) : Option ρ68 :=
some (Int.toNat (9221120237041090561))
abbrev ρ69 := (Int × Nat)
def g69 (n : Nat) (a0 : Nat) : Option ρ69 :=
none
abbrev ρ65 := (Nat)
def g65 (n : Nat) (a0 : Nat) : Option ρ65 :=
bif (fEq a0 0) then (
some (a0)) else (
(g66 n a0).bind fun x3 =>
bif x3 then (
some (a0)) else (
(g67 n a0 (0)).bind fun x5 =>
bif x5 then (
(g68 n).bind fun x6 =>
some (x6)) else (
bif (fLt a0 0) then (
bif (fGe (fNeg a0) 4737786807993761792) then (
none) else (
(fMulO (fNeg a0) 4608412980311869571).bind fun x96 =>
(f2iO .u64 x96).bind fun x97 =>
bif ((bAnd .u64 x97 (1)) == (1)) then (
(fAddO (i2f x97) 4607182418800017408).bind fun x98 =>
(fMulO x98 4605249456957292544).bind fun x99 =>
(fSubO (fNeg a0) x99).bind fun x100 =>
(fMulO x98 4495793288086814720).bind fun x101 =>
(fSubO x100 x101).bind fun x102 =>
(fMulO x98 4388835458085048688).bind fun x103 =>
(fSubO x102 x103).bind fun x104 =>
bif (decide ((bAnd .u64 (IntKind.wrap .u64 (x97 + (1))) (7)) > (3))) then (
(fMulO x104 x104).bind fun x105 =>
bif ((IntKind.wrap .u64 ((bAnd .u64 (IntKind.wrap .u64 (x97 + (1))) (7)) - (4))) == (1)) then (
(fMulO 4602678819172646912 x105).bind fun x106 =>
(fSubO 4607182418800017408 x106).bind fun x107 =>
(fMulO x105 x105).bind fun x108 =>
(fMulO 13666448263388469915 x105).bind fun x109 =>
(fAddO x109 4477121864728985349).bind fun x110 =>
(fMulO x110 x105).bind fun x111 =>
(fAddO x111 13732177093698800582).bind fun x112 =>
(fMulO x112 x105).bind fun x113 =>
(fAddO x113 4537941361668146421).bind fun x114 =>
(fMulO x114 x105).bind fun x115 =>
(fAddO x115 13787419979223748497).bind fun x116 =>
(fMulO x116 x105).bind fun x117 =>
(fAddO x117 4586165620538955083).bind fun x118 =>
(fMulO x108 x118).bind fun x119 =>
(fAddO x107 x119).bind fun x120 =>
some (x120)) else (
bif ((IntKind.wrap .u64 ((bAnd .u64 (IntKind.wrap .u64 (x97 + (1))) (7)) - (4))) == (2)) then (
(fMulO 4602678819172646912 x105).bind fun x121 =>
(fSubO 4607182418800017408 x121).bind fun x122 =>
(fMulO x105 x105).bind fun x123 =>
(fMulO 13666448263388469915 x105).bind fun x124 =>
(fAddO x124 4477121864728985349).bind fun x125 =>
(fMulO x125 x105).bind fun x126 =>
(fAddO x126 13732177093698800582).bind fun x127 =>
(fMulO x127 x105).bind fun x128 =>
(fAddO x128 4537941361668146421).bind fun x129 =>
(fMulO x129 x105).bind fun x130 =>
(fAddO x130 13787419979223748497).bind fun x131 =>
(fMulO x131 x105).bind fun x132 =>
(fAddO x132 4586165620538955083).bind fun x133 =>
(fMulO x123 x133).bind fun x134 =>
(fAddO x122 x134).bind fun x135 =>
some (x135)) else (
(fMulO x104 x105).bind fun x136 =>
(fMulO 4460209587652500685 x105).bind fun x137 =>
(fAddO x137 13716528389658582877).bind fun x138 =>
(fMulO x138 x105).bind fun x139 =>
(fAddO x139 4523617212962785441).bind fun x140 =>
(fMulO x140 x105).bind fun x141 =>
(fAddO x141 13774824197404483331).bind fun x142 =>
(fMulO x142 x105).bind fun x143 =>
(fAddO x143 4575957461383575504).bind fun x144 =>
(fMulO x144 x105).bind fun x145 =>
(fAddO x145 13818544856648471880).bind fun x146 =>
(fMulO x136 x146).bind fun x147 =>
(fAddO x104 x147).bind fun x148 =>
some (x148)))) else (
(fMulO x104 x104).bind fun x149 =>
bif ((bAnd .u64 (IntKind.wrap .u64 (x97 + (1))) (7)) == (1)) then (
(fMulO 4602678819172646912 x149).bind fun x150 =>
(fSubO 4607182418800017408 x150).bind fun x151 =>
(fMulO x149 x149).bind fun x152 =>
(fMulO 13666448263388469915 x149).bind fun x153 =>
(fAddO x153 4477121864728985349).bind fun x154 =>
(fMulO x154 x149).bind fun x155 =>
(fAddO x155 13732177093698800582).bind fun x156 =>
(fMulO x156 x149).bind fun x157 =>
(fAddO x157 4537941361668146421).bind fun x158 =>
(fMulO x158 x149).bind fun x159 =>
(fAddO x159 13787419979223748497).bind fun x160 =>
(fMulO x160 x149).bind fun x161 =>
(fAddO x161 4586165620538955083).bind fun x162 =>
(fMulO x152 x162).bind fun x163 =>
(fAddO x151 x163).bind fun x164 =>
some (fNeg x164)) else (
bif ((bAnd .u64 (IntKind.wrap .u64 (x97 + (1))) (7)) == (2)) then (
(fMulO 4602678819172646912 x149).bind fun x165 =>
(fSubO 4607182418800017408 x165).bind fun x166 =>
(fMulO x149 x149).bind fun x167 =>
(fMulO 13666448263388469915 x149).bind fun x168 =>
(fAddO x168 4477121864728985349).bind fun x169 =>
(fMulO x169 x149).bind fun x170 =>
(fAddO x170 13732177093698800582).bind fun x171 =>
(fMulO x171 x149).bind fun x172 =>
(fAddO x172 4537941361668146421).bind fun x173 =>
(fMulO x173 x149).bind fun x174 =>
(fAddO x174 13787419979223748497).bind fun x175 =>
(fMulO x175 x149).bind fun x176 =>
(fAddO x176 4586165620538955083).bind fun x177 =>
(fMulO x167 x177).bind fun x178 =>
(fAddO x166 x178).bind fun x179 =>
some (fNeg x179)) else (
(fMulO x104 x149).bind fun x180 =>
(fMulO 4460209587652500685 x149).bind fun x181 =>
(fAddO x181 13716528389658582877).bind fun x182 =>
(fMulO x182 x149).bind fun x183 =>
(fAddO x183 4523617212962785441).bind fun x184 =>
(fMulO x184 x149).bind fun x185 =>
(fAddO x185 13774824197404483331).bind fun x186 =>
(fMulO x186 x149).bind fun x187 =>
(fAddO x187 4575957461383575504).bind fun x188 =>
(fMulO x188 x149).bind fun x189 =>
(fAddO x189 13818544856648471880).bind fun x190 =>
(fMulO x180 x190).bind fun x191 =>
(fAddO x104 x191).bind fun x192 =>
some (fNeg x192))))) else (
(fMulO (i2f x97) 4605249456957292544).bind fun x193 =>
(fSubO (fNeg a0) x193).bind fun x194 =>
(fMulO (i2f x97) 4495793288086814720).bind fun x195 =>
(fSubO x194 x195).bind fun x196 =>
(fMulO (i2f x97) 4388835458085048688).bind fun x197 =>
(fSubO x196 x197).bind fun x198 =>
bif (decide ((bAnd .u64 x97 (7)) > (3))) then (
(fMulO x198 x198).bind fun x199 =>
bif ((IntKind.wrap .u64 ((bAnd .u64 x97 (7)) - (4))) == (1)) then (
(fMulO 4602678819172646912 x199).bind fun x200 =>
(fSubO 4607182418800017408 x200).bind fun x201 =>
(fMulO x199 x199).bind fun x202 =>
(fMulO 13666448263388469915 x199).bind fun x203 =>
(fAddO x203 4477121864728985349).bind fun x204 =>
(fMulO x204 x199).bind fun x205 =>
(fAddO x205 13732177093698800582).bind fun x206 =>
(fMulO x206 x199).bind fun x207 =>
(fAddO x207 4537941361668146421).bind fun x208 =>
(fMulO x208 x199).bind fun x209 =>
(fAddO x209 13787419979223748497).bind fun x210 =>
(fMulO x210 x199).bind fun x211 =>
(fAddO x211 4586165620538955083).bind fun x212 =>
(fMulO x202 x212).bind fun x213 =>
(fAddO x201 x213).bind fun x214 =>
some (x214)) else (
bif ((IntKind.wrap .u64 ((bAnd .u64 x97 (7)) - (4))) == (2)) then (
(fMulO 4602678819172646912 x199).bind fun x215 =>
(fSubO 4607182418800017408 x215).bind fun x216 =>
(fMulO x199 x199).bind fun x217 =>
(fMulO 13666448263388469915 x199).bind fun x218 =>
(fAddO x218 4477121864728985349).bind fun x219 =>
(fMulO x219 x199).bind fun x220 =>
(fAddO x220 13732177093698800582).bind fun x221 =>
(fMulO x221 x199).bind fun x222 =>
(fAddO x222 4537941361668146421).bind fun x223 =>
(fMulO x223 x199).bind fun x224 =>
(fAddO x224 13787419979223748497).bind fun x225 =>
(fMulO x225 x199).bind fun x226 =>
(fAddO x226 4586165620538955083).bind fun x227 =>
(fMulO x217 x227).bind fun x228 =>
(fAddO x216 x228).bind fun x229 =>
some (x229)) else (
(fMulO x198 x199).bind fun x230 =>
(fMulO 4460209587652500685 x199).bind fun x231 =>
(fAddO x231 13716528389658582877).bind fun x232 =>
(fMulO x232 x199).bind fun x233 =>
(fAddO x233 4523617212962785441).bind fun x234 =>
(fMulO x234 x199).bind fun x235 =>
(fAddO x235 13774824197404483331).bind fun x236 =>
(fMulO x236 x199).bind fun x237 =>
(fAddO x237 4575957461383575504).bind fun x238 =>
(fMulO x238 x199).bind fun x239 =>
(fAddO x239 13818544856648471880).bind fun x240 =>
(fMulO x230 x240).bind fun x241 =>
(fAddO x198 x241).bind fun x242 =>
some (x242)))) else (
(fMulO x198 x198).bind fun x243 =>
bif ((bAnd .u64 x97 (7)) == (1)) then (
(fMulO 4602678819172646912 x243).bind fun x244 =>
(fSubO 4607182418800017408 x244).bind fun x245 =>
(fMulO x243 x243).bind fun x246 =>
(fMulO 13666448263388469915 x243).bind fun x247 =>
(fAddO x247 4477121864728985349).bind fun x248 =>
(fMulO x248 x243).bind fun x249 =>
(fAddO x249 13732177093698800582).bind fun x250 =>
(fMulO x250 x243).bind fun x251 =>
(fAddO x251 4537941361668146421).bind fun x252 =>
(fMulO x252 x243).bind fun x253 =>
(fAddO x253 13787419979223748497).bind fun x254 =>
(fMulO x254 x243).bind fun x255 =>
(fAddO x255 4586165620538955083).bind fun x256 =>
(fMulO x246 x256).bind fun x257 =>
(fAddO x245 x257).bind fun x258 =>
some (fNeg x258)) else (
bif ((bAnd .u64 x97 (7)) == (2)) then (
(fMulO 4602678819172646912 x243).bind fun x259 =>
(fSubO 4607182418800017408 x259).bind fun x260 =>
(fMulO x243 x243).bind fun x261 =>
(fMulO 13666448263388469915 x243).bind fun x262 =>
(fAddO x262 4477121864728985349).bind fun x263 =>
(fMulO x263 x243).bind fun x264 =>
(fAddO x264 13732177093698800582).bind fun x265 =>
(fMulO x265 x243).bind fun x266 =>
(fAddO x266 4537941361668146421).bind fun x267 =>
(fMulO x267 x243).bind fun x268 =>
(fAddO x268 13787419979223748497).bind fun x269 =>
(fMulO x269 x243).bind fun x270 =>
(fAddO x270 4586165620538955083).bind fun x271 =>
(fMulO x261 x271).bind fun x272 =>
(fAddO x260 x272).bind fun x273 =>
some (fNeg x273)) else (
(fMulO x198 x243).bind fun x274 =>
(fMulO 4460209587652500685 x243).bind fun x275 =>
(fAddO x275 13716528389658582877).bind fun x276 =>
(fMulO x276 x243).bind fun x277 =>
(fAddO x277 4523617212962785441).bind fun x278 =>
(fMulO x278 x243).bind fun x279 =>
(fAddO x279 13774824197404483331).bind fun x280 =>
(fMulO x280 x243).bind fun x281 =>
(fAddO x281 4575957461383575504).bind fun x282 =>
(fMulO x282 x243).bind fun x283 =>
(fAddO x283 13818544856648471880).bind fun x284 =>
(fMulO x274 x284).bind fun x285 =>
(fAddO x198 x285).bind fun x286 =>
some (fNeg x286))))))) else (
bif (fGe a0 4737786807993761792) then (
none) else (
(fMulO a0 4608412980311869571).bind fun x376 =>
(f2iO .u64 x376).bind fun x377 =>
bif ((bAnd .u64 x377 (1)) == (1)) then (
(fAddO (i2f x377) 4607182418800017408).bind fun x378 =>
(fMulO x378 4605249456957292544).bind fun x379 =>
(fSubO a0 x379).bind fun x380 =>
(fMulO x378 4495793288086814720).bind fun x381 =>
(fSubO x380 x381).bind fun x382 =>
(fMulO x378 4388835458085048688).bind fun x383 =>
(fSubO x382 x383).bind fun x384 =>
bif (decide ((bAnd .u64 (IntKind.wrap .u64 (x377 + (1))) (7)) > (3))) then (
(fMulO x384 x384).bind fun x385 =>
bif ((IntKind.wrap .u64 ((bAnd .u64 (IntKind.wrap .u64 (x377 + (1))) (7)) - (4))) == (1)) then (
(fMulO 4602678819172646912 x385).bind fun x386 =>
(fSubO 4607182418800017408 x386).bind fun x387 =>
(fMulO x385 x385).bind fun x388 =>
(fMulO 13666448263388469915 x385).bind fun x389 =>
(fAddO x389 4477121864728985349).bind fun x390 =>
(fMulO x390 x385).bind fun x391 =>
(fAddO x391 13732177093698800582).bind fun x392 =>
(fMulO x392 x385).bind fun x393 =>
(fAddO x393 4537941361668146421).bind fun x394 =>
(fMulO x394 x385).bind fun x395 =>
(fAddO x395 13787419979223748497).bind fun x396 =>
(fMulO x396 x385).bind fun x397 =>
(fAddO x397 4586165620538955083).bind fun x398 =>
(fMulO x388 x398).bind fun x399 =>
(fAddO x387 x399).bind fun x400 =>
some (fNeg x400)) else (
bif ((IntKind.wrap .u64 ((bAnd .u64 (IntKind.wrap .u64 (x377 + (1))) (7)) - (4))) == (2)) then (
(fMulO 4602678819172646912 x385).bind fun x401 =>
(fSubO 4607182418800017408 x401).bind fun x402 =>
(fMulO x385 x385).bind fun x403 =>
(fMulO 13666448263388469915 x385).bind fun x404 =>
(fAddO x404 4477121864728985349).bind fun x405 =>
(fMulO x405 x385).bind fun x406 =>
(fAddO x406 13732177093698800582).bind fun x407 =>
(fMulO x407 x385).bind fun x408 =>
(fAddO x408 4537941361668146421).bind fun x409 =>
(fMulO x409 x385).bind fun x410 =>
(fAddO x410 13787419979223748497).bind fun x411 =>
(fMulO x411 x385).bind fun x412 =>
(fAddO x412 4586165620538955083).bind fun x413 =>
(fMulO x403 x413).bind fun x414 =>
(fAddO x402 x414).bind fun x415 =>
some (fNeg x415)) else (
(fMulO x384 x385).bind fun x416 =>
(fMulO 4460209587652500685 x385).bind fun x417 =>
(fAddO x417 13716528389658582877).bind fun x418 =>
(fMulO x418 x385).bind fun x419 =>
(fAddO x419 4523617212962785441).bind fun x420 =>
(fMulO x420 x385).bind fun x421 =>
(fAddO x421 13774824197404483331).bind fun x422 =>
(fMulO x422 x385).bind fun x423 =>
(fAddO x423 4575957461383575504).bind fun x424 =>
(fMulO x424 x385).bind fun x425 =>
(fAddO x425 13818544856648471880).bind fun x426 =>
(fMulO x416 x426).bind fun x427 =>
(fAddO x384 x427).bind fun x428 =>
some (fNeg x428)))) else (
(fMulO x384 x384).bind fun x429 =>
bif ((bAnd .u64 (IntKind.wrap .u64 (x377 + (1))) (7)) == (1)) then (
(fMulO 4602678819172646912 x429).bind fun x430 =>
(fSubO 4607182418800017408 x430).bind fun x431 =>
(fMulO x429 x429).bind fun x432 =>
(fMulO 13666448263388469915 x429).bind fun x433 =>
(fAddO x433 4477121864728985349).bind fun x434 =>
(fMulO x434 x429).bind fun x435 =>
(fAddO x435 13732177093698800582).bind fun x436 =>
(fMulO x436 x429).bind fun x437 =>
(fAddO x437 4537941361668146421).bind fun x438 =>
(fMulO x438 x429).bind fun x439 =>
(fAddO x439 13787419979223748497).bind fun x440 =>
(fMulO x440 x429).bind fun x441 =>
(fAddO x441 4586165620538955083).bind fun x442 =>
(fMulO x432 x442).bind fun x443 =>
(fAddO x431 x443).bind fun x444 =>
some (x444)) else (
bif ((bAnd .u64 (IntKind.wrap .u64 (x377 + (1))) (7)) == (2)) then (
(fMulO 4602678819172646912 x429).bind fun x445 =>
(fSubO 4607182418800017408 x445).bind fun x446 =>
(fMulO x429 x429).bind fun x447 =>
(fMulO 13666448263388469915 x429).bind fun x448 =>
(fAddO x448 4477121864728985349).bind fun x449 =>
(fMulO x449 x429).bind fun x450 =>
(fAddO x450 13732177093698800582).bind fun x451 =>
(fMulO x451 x429).bind fun x452 =>
(fAddO x452 4537941361668146421).bind fun x453 =>
(fMulO x453 x429).bind fun x454 =>
(fAddO x454 13787419979223748497).bind fun x455 =>
(fMulO x455 x429).bind fun x456 =>
(fAddO x456 4586165620538955083).bind fun x457 =>
(fMulO x447 x457).bind fun x458 =>
(fAddO x446 x458).bind fun x459 =>
some (x459)) else (
(fMulO x384 x429).bind fun x460 =>
(fMulO 4460209587652500685 x429).bind fun x461 =>
(fAddO x461 13716528389658582877).bind fun x462 =>
(fMulO x462 x429).bind fun x463 =>
(fAddO x463 4523617212962785441).bind fun x464 =>
(fMulO x464 x429).bind fun x465 =>
(fAddO x465 13774824197404483331).bind fun x466 =>
(fMulO x466 x429).bind fun x467 =>
(fAddO x467 4575957461383575504).bind fun x468 =>
(fMulO x468 x429).bind fun x469 =>
(fAddO x469 13818544856648471880).bind fun x470 =>
(fMulO x460 x470).bind fun x471 =>
(fAddO x384 x471).bind fun x472 =>
some (x472))))) else (
(fMulO (i2f x377) 4605249456957292544).bind fun x473 =>
(fSubO a0 x473).bind fun x474 =>
(fMulO (i2f x377) 4495793288086814720).bind fun x475 =>
(fSubO x474 x475).bind fun x476 =>
(fMulO (i2f x377) 4388835458085048688).bind fun x477 =>
(fSubO x476 x477).bind fun x478 =>
bif (decide ((bAnd .u64 x377 (7)) > (3))) then (
(fMulO x478 x478).bind fun x479 =>
bif ((IntKind.wrap .u64 ((bAnd .u64 x377 (7)) - (4))) == (1)) then (
(fMulO 4602678819172646912 x479).bind fun x480 =>
(fSubO 4607182418800017408 x480).bind fun x481 =>
(fMulO x479 x479).bind fun x482 =>
(fMulO 13666448263388469915 x479).bind fun x483 =>
(fAddO x483 4477121864728985349).bind fun x484 =>
(fMulO x484 x479).bind fun x485 =>
(fAddO x485 13732177093698800582).bind fun x486 =>
(fMulO x486 x479).bind fun x487 =>
(fAddO x487 4537941361668146421).bind fun x488 =>
(fMulO x488 x479).bind fun x489 =>
(fAddO x489 13787419979223748497).bind fun x490 =>
(fMulO x490 x479).bind fun x491 =>
(fAddO x491 4586165620538955083).bind fun x492 =>
(fMulO x482 x492).bind fun x493 =>
(fAddO x481 x493).bind fun x494 =>
some (fNeg x494)) else (
bif ((IntKind.wrap .u64 ((bAnd .u64 x377 (7)) - (4))) == (2)) then (
(fMulO 4602678819172646912 x479).bind fun x495 =>
(fSubO 4607182418800017408 x495).bind fun x496 =>
(fMulO x479 x479).bind fun x497 =>
(fMulO 13666448263388469915 x479).bind fun x498 =>
(fAddO x498 4477121864728985349).bind fun x499 =>
(fMulO x499 x479).bind fun x500 =>
(fAddO x500 13732177093698800582).bind fun x501 =>
(fMulO x501 x479).bind fun x502 =>
(fAddO x502 4537941361668146421).bind fun x503 =>
(fMulO x503 x479).bind fun x504 =>
(fAddO x504 13787419979223748497).bind fun x505 =>
(fMulO x505 x479).bind fun x506 =>
(fAddO x506 4586165620538955083).bind fun x507 =>
(fMulO x497 x507).bind fun x508 =>
(fAddO x496 x508).bind fun x509 =>
some (fNeg x509)) else (
(fMulO x478 x479).bind fun x510 =>
(fMulO 4460209587652500685 x479).bind fun x511 =>
(fAddO x511 13716528389658582877).bind fun x512 =>
(fMulO x512 x479).bind fun x513 =>
(fAddO x513 4523617212962785441).bind fun x514 =>
(fMulO x514 x479).bind fun x515 =>
(fAddO x515 13774824197404483331).bind fun x516 =>
(fMulO x516 x479).bind fun x517 =>
(fAddO x517 4575957461383575504).bind fun x518 =>
(fMulO x518 x479).bind fun x519 =>
(fAddO x519 13818544856648471880).bind fun x520 =>
(fMulO x510 x520).bind fun x521 =>
(fAddO x478 x521).bind fun x522 =>
some (fNeg x522)))) else (
(fMulO x478 x478).bind fun x523 =>
bif ((bAnd .u64 x377 (7)) == (1)) then (
(fMulO 4602678819172646912 x523).bind fun x524 =>
(fSubO 4607182418800017408 x524).bind fun x525 =>
(fMulO x523 x523).bind fun x526 =>
(fMulO 13666448263388469915 x523).bind fun x527 =>
(fAddO x527 4477121864728985349).bind fun x528 =>
(fMulO x528 x523).bind fun x529 =>
(fAddO x529 13732177093698800582).bind fun x530 =>
(fMulO x530 x523).bind fun x531 =>
(fAddO x531 4537941361668146421).bind fun x532 =>
(fMulO x532 x523).bind fun x533 =>
(fAddO x533 13787419979223748497).bind fun x534 =>
(fMulO x534 x523).bind fun x535 =>
(fAddO x535 4586165620538955083).bind fun x536 =>
(fMulO x526 x536).bind fun x537 =>
(fAddO x525 x537).bind fun x538 =>
some (x538)) else (
bif ((bAnd .u64 x377 (7)) == (2)) then (
(fMulO 4602678819172646912 x523).bind fun x539 =>
(fSubO 4607182418800017408 x539).bind fun x540 =>
(fMulO x523 x523).bind fun x541 =>
(fMulO 13666448263388469915 x523).bind fun x542 =>
(fAddO x542 4477121864728985349).bind fun x543 =>
(fMulO x543 x523).bind fun x544 =>
(fAddO x544 13732177093698800582).bind fun x545 =>
(fMulO x545 x523).bind fun x546 =>
(fAddO x546 4537941361668146421).bind fun x547 =>
(fMulO x547 x523).bind fun x548 =>
(fAddO x548 13787419979223748497).bind fun x549 =>
(fMulO x549 x523).bind fun x550 =>
(fAddO x550 4586165620538955083).bind fun x551 =>
(fMulO x541 x551).bind fun x552 =>
(fAddO x540 x552).bind fun x553 =>
some (x553)) else (
(fMulO x478 x523).bind fun x554 =>
(fMulO 4460209587652500685 x523).bind fun x555 =>
(fAddO x555 13716528389658582877).bind fun x556 =>
(fMulO x556 x523).bind fun x557 =>
(fAddO x557 4523617212962785441).bind fun x558 =>
(fMulO x558 x523).bind fun x559 =>
(fAddO x559 13774824197404483331).bind fun x560 =>
(fMulO x560 x523).bind fun x561 =>
(fAddO x561 4575957461383575504).bind fun x562 =>
(fMulO x562 x523).bind fun x563 =>
(fAddO x563 13818544856648471880).bind fun x564 =>
(fMulO x554 x564).bind fun x565 =>
(fAddO x478 x565).bind fun x566 =>
some (x566))))))))))
abbrev ρ58 := (Nat)
def g58 (n : Nat) (a0 : Nat) : Option ρ58 :=
(g65 n a0).bind fun x567 =>
some (x567)
abbrev ρ57 := (Nat)
def g57 (n : Nat) (a0 : Nat) : Option ρ57 :=
(shrO .u64 (a0 : Int) (52)).bind fun x570 =>
bif (decide ((bAnd .u64 x570 (2047)) < (1023))) then (
bif ((bAnd .u64 x570 (2047)) == (1022)) then (
some (Int.toNat (bOr .u64 (bAnd .u64 (a0 : Int) (9223372036854775808)) (4607182418800017408)))) else (
some (Int.toNat (bAnd .u64 (a0 : Int) (9223372036854775808))))) else (
bif (decide ((bAnd .u64 x570 (2047)) < (1075))) then (
(shrO .u64 (2251799813685248) (IntKind.wrap .u64 ((bAnd .u64 x570 (2047)) - (1023)))).bind fun x571 =>
(shrO .u64 (4503599627370495) (IntKind.wrap .u64 ((bAnd .u64 x570 (2047)) - (1023)))).bind fun x572 =>
some (Int.toNat (bAndNot .u64 (IntKind.wrap .u64 ((a0 : Int) + x571)) x572))) else (
some (Int.toNat (a0 : Int))))
abbrev ρ52 := (Int)
def g52 (n : Nat) (a0 : Int) : Option ρ52 :=
(g59 n a0).bind fun x0 =>
(fMulO (i2f x0) 4614256656552045848).bind fun x1 =>
(fQuoO x1 4656722014701092864).bind fun x2 =>
(g58 n x2).bind fun x568 =>
(fMulO 4670232813583204352 x568).bind fun x569 =>
(g57 n x569).bind fun x573 =>
(f2iO .i64 x573).bind fun x574 =>
some (x574)
abbrev ρ53 := (Int)
def g53 (n : Nat) (a0 : Int) : Option ρ53 :=
(g59 n a0).bind fun x575 =>
(g52 n (IntKind.wrap .i64 (x575 + (1024)))).bind fun x576 =>
some (x576)
abbrev ρ51 := Int
def nearP (a b : Int) : Option Int := (divO (IntKind.wrap .i64 (a + IntKind.wrap .i64 (Int.tdiv b 2))) b).bind fun q => some (IntKind.wrap .i64 q)
def g51 (n : Nat) (a0 : Int) (a1 : Int) : Option ρ51 :=
bif decide (a0 < 0) then (bif decide (IntKind.wrap .i64 (0 - a0) < 0) then none else (nearP (IntKind.wrap .i64 (0 - a0)) a1).bind fun z => some (IntKind.wrap .i64 (0 - z))) else nearP a0 a1

abbrev ρ44 := (TP × Int)
def g44 (n : Nat) (a0 : Int) (a1 : Int) : Option ρ44 :=
bif (decide (a1 < (0))) then (
some ((⟨(0), (0)⟩ : TP), (4))) else (
bif (decide (a1 > (2000000))) then (
some ((⟨(0), (0)⟩ : TP), (4))) else (
(g52 n a0).bind fun x577 =>
(g51 n (IntKind.wrap .i64 (a1 * x577)) (16384)).bind fun x578 =>
(g53 n a0).bind fun x579 =>
(g51 n (IntKind.wrap .i64 (a1 * x579)) (16384)).bind fun x580 =>
some ((⟨x578, x580⟩ : TP), (0))))
abbrev ρ10 := ((List TTubeNode))
def g10 (n : Nat) : Option ρ10 :=
some ([(⟨(0), (0), (0), (9000), (100), (50)⟩ : TTubeNode), (⟨(100), (10000), (0), (9000), (100), (50)⟩ : TTubeNode)] : List TTubeNode)
abbrev ρ11 := (TClearance)
def g11 (n : Nat) (a0 : Int) : Option ρ11 :=
some (⟨(⟨#[65, 49]⟩ : ByteArray), (0), a0, (⟨#[]⟩ : ByteArray)⟩ : TClearance)
abbrev ρ12 := (TKind)
def g12 (n : Nat) : Option ρ12 :=
some (⟨(⟨#[74, 69, 84]⟩ : ByteArray), (1), (40000), (50), (40), (50), (300)⟩ : TKind)
abbrev ρ20 := (Int)
def g20 (n : Nat) (a0 : TP) : Option ρ20 :=
bif (decide (a0.X < (-1000000))) then (
some (4)) else (
bif (decide (a0.X > (1000000))) then (
some (4)) else (
bif (decide (a0.Y < (-1000000))) then (
some (4)) else (
bif (decide (a0.Y > (1000000))) then (
some (4)) else (
some (0)))))
abbrev ρ7 := (Int)
def S7_0 (n : Nat) (a0 : List TTubeNode) (c2 : Int) (c15 : Int) (v16 : Int) : Option ((Int) ⊕ ρ7) :=
bif (decide (v16 < c15)) then (
(getI a0 v16).bind fun x585 =>
bif (decide (x585.Node_Time < (0))) then (
some (.inr (12))) else (
bif (decide (x585.Node_Time > (200000))) then (
some (.inr (12))) else (
bif (decide (v16 > (0))) then (
(getI a0 (IntKind.wrap .i64 (v16 - (1)))).bind fun x586 =>
bif (decide (x585.Node_Time ≤ x586.Node_Time)) then (
some (.inr (12))) else (
(g20 n (⟨x585.Node_At_X, x585.Node_At_Y⟩ : TP)).bind fun x587 =>
bif (x587 != (0)) then (
some (.inr (x587))) else (
bif (decide (x585.Node_Height < (0))) then (
some (.inr (4))) else (
bif (decide (x585.Node_Height > (60000))) then (
some (.inr (4))) else (
bif (decide (x585.Radius < (0))) then (
some (.inr (4))) else (
bif (decide (x585.Radius > (1000000))) then (
some (.inr (4))) else (
bif (decide (x585.Band < (0))) then (
some (.inr (4))) else (
bif (decide (x585.Band > (60000))) then (
some (.inr (4))) else (
some (.inl (IntKind.wrap .i64 (v16 + (1))))))))))))) else (
(g20 n (⟨x585.Node_At_X, x585.Node_At_Y⟩ : TP)).bind fun x588 =>
bif (x588 != (0)) then (
some (.inr (x588))) else (
bif (decide (x585.Node_Height < (0))) then (
some (.inr (4))) else (
bif (decide (x585.Node_Height > (60000))) then (
some (.inr (4))) else (
bif (decide (x585.Radius < (0))) then (
some (.inr (4))) else (
bif (decide (x585.Radius > (1000000))) then (
some (.inr (4))) else (
bif (decide (x585.Band < (0))) then (
some (.inr (4))) else (
bif (decide (x585.Band > (60000))) then (
some (.inr (4))) else (
some (.inl (IntKind.wrap .i64 (v16 + (1))))))))))))))) else (
some (.inr (0)))
def g7 (n : Nat) (a0 : List TTubeNode) : Option ρ7 :=
bif (decide ((a0.length : Int) > (64))) then (
some (2)) else (
bif ((a0.length : Int) == (0)) then (
some (3)) else (
iterO (fun y : Int => S7_0 n a0 (0) (a0.length : Int) y) n (0)))
abbrev ρ14 := (Int)
def g14 (n : Nat) (a0_0 : List TTubeNode) : Option ρ14 :=
(g7 n a0_0).bind fun x589 =>
some (x589)
abbrev ρ28 := (Bool)
def S28_0 (n : Nat) (c2 : Bool) (c14 : List UInt8) (c15 : Int) (v16 : Int) : Option ((Int) ⊕ ρ28) :=
bif (decide (v16 < c15)) then (
(getI c14 v16).bind fun x593 =>
bif (decide ((x593.toNat : Int) ≥ (65))) then (
bif (decide ((x593.toNat : Int) ≤ (90))) then (
some (.inl (IntKind.wrap .i64 (v16 + (1))))) else (
bif (decide (v16 > (0))) then (
bif (decide ((x593.toNat : Int) ≥ (48))) then (
bif (!(decide ((x593.toNat : Int) ≤ (57)))) then (
some (.inr (false))) else (
some (.inl (IntKind.wrap .i64 (v16 + (1)))))) else (
some (.inr (false)))) else (
some (.inr (false))))) else (
bif (decide (v16 > (0))) then (
bif (decide ((x593.toNat : Int) ≥ (48))) then (
bif (!(decide ((x593.toNat : Int) ≤ (57)))) then (
some (.inr (false))) else (
some (.inl (IntKind.wrap .i64 (v16 + (1)))))) else (
some (.inr (false)))) else (
some (.inr (false))))) else (
some (.inr (true)))
def g28 (n : Nat) (a0 : ByteArray) : Option ρ28 :=
bif (decide ((a0.size : Int) < (1))) then (
some (false)) else (
bif (decide ((a0.size : Int) > (8))) then (
some (false)) else (
(roomO a0.size 1).bind fun x592 =>
iterO (fun y : Int => S28_0 n false (a0.data.toList) ((a0.data.toList).length : Int) y) n (0)))
abbrev ρ48 := (Int)
def S48_0 (n : Nat) (a0 : List ByteArray) (a1 : ByteArray) (c4 : Int) (c7 : Int) (v8 : Int) : Option ((Int) ⊕ ρ48) :=
bif (decide (v8 < c7)) then (
(getI a0 v8).bind fun x595 =>
bif ((a1).toList == (x595).toList) then (
some (.inr (v8))) else (
some (.inl (IntKind.wrap .i64 (v8 + (1)))))) else (
some (.inr (-1)))
def g48 (n : Nat) (a0 : List ByteArray) (a1 : ByteArray) : Option ρ48 :=
iterO (fun y : Int => S48_0 n a0 a1 (0) (a0.length : Int) y) n (0)
abbrev ρ39 := (Int)
def g39 (n : Nat) (a0 : ByteArray) : Option ρ39 :=
(g48 n ([(⟨#[72, 69, 73, 71, 72, 84]⟩ : ByteArray), (⟨#[72, 69, 65, 68, 73, 78, 71]⟩ : ByteArray), (⟨#[83, 80, 69, 69, 68]⟩ : ByteArray), (⟨#[68, 73, 82, 69, 67, 84]⟩ : ByteArray), (⟨#[72, 79, 76, 68]⟩ : ByteArray), (⟨#[67, 79, 78, 84, 65, 67, 84]⟩ : ByteArray), (⟨#[76, 65, 78, 68]⟩ : ByteArray)] : List ByteArray) a0).bind fun x596 =>
some (x596)
abbrev ρ26 := (Bool)
def g26 (n : Nat) (a0 : ByteArray) : Option ρ26 :=
(g28 n a0).bind fun x594 =>
bif x594 then (
(g39 n a0).bind fun x597 =>
some (decide (x597 < (0)))) else (
some (false))
abbrev ρ16 := (Int)
def g16 (n : Nat) (a0 : TClearance) : Option ρ16 :=
(g26 n a0.Call).bind fun x598 =>
bif (!x598) then (
some (3)) else (
bif (decide (a0.Kind < (0))) then (
some (1)) else (
bif (decide (a0.Kind > (6))) then (
some (1)) else (
bif (decide (a0.Kind > (2))) then (
bif (a0.Value != (0)) then (
some (3)) else (
(g26 n a0.Fix).bind fun x599 =>
bif (!x599) then (
some (3)) else (
some (0)))) else (
bif (!((a0.Fix).toList == ((⟨#[]⟩ : ByteArray)).toList)) then (
some (3)) else (
bif (decide (a0.Value < (0))) then (
some (4)) else (
(getI ([(60000), (4095), (400)] : List Int) a0.Kind).bind fun x600 =>
bif (decide (a0.Value > x600)) then (
some (4)) else (
some (0))))))))
abbrev ρ15 := (Int)
def g15 (n : Nat) (a0_0 : ByteArray) (a0_1 : Int) (a0_2 : Int) (a0_3 : ByteArray) : Option ρ15 :=
(g16 n (⟨a0_0, a0_1, a0_2, a0_3⟩ : TClearance)).bind fun x601 =>
some (x601)
abbrev ρ27 := (Bool)
def g27 (n : Nat) (a0 : Int) (a1 : Int) : Option ρ27 :=
bif (decide (a0 < (1))) then (
some (true)) else (
some (decide (a0 > a1)))
abbrev ρ18 := (Int)
def g18 (n : Nat) (a0 : TKind) : Option ρ18 :=
(g28 n a0.Name).bind fun x604 =>
bif (!x604) then (
some (5)) else (
bif (decide (a0.Wake < (0))) then (
some (1)) else (
bif (decide (a0.Wake > (3))) then (
some (1)) else (
(g27 n a0.Ceiling (60000)).bind fun x605 =>
bif x605 then (
some (4)) else (
(g27 n a0.Climb (200)).bind fun x606 =>
bif x606 then (
some (4)) else (
(g27 n a0.Descent (200)).bind fun x607 =>
bif x607 then (
some (4)) else (
(g27 n a0.Slow (400)).bind fun x608 =>
bif x608 then (
some (4)) else (
(g27 n a0.Fast (400)).bind fun x609 =>
bif x609 then (
some (4)) else (
bif (decide (a0.Slow > a0.Fast)) then (
some (3)) else (
some (0))))))))))
abbrev ρ17 := (Int)
def g17 (n : Nat) (a0_0 : ByteArray) (a0_1 : Int) (a0_2 : Int) (a0_3 : Int) (a0_4 : Int) (a0_5 : Int) (a0_6 : Int) : Option ρ17 :=
(g18 n (⟨a0_0, a0_1, a0_2, a0_3, a0_4, a0_5, a0_6⟩ : TKind)).bind fun x610 =>
some (x610)
abbrev ρ19 := (Int)
def g19 (n : Nat) (a0_0 : Int) (a0_1 : Int) : Option ρ19 :=
(g20 n (⟨a0_0, a0_1⟩ : TP)).bind fun x613 =>
some (x613)
abbrev ρ24 := (Int × Int)
def g24 (n : Nat) (a0 : List TTubeNode) : Option ρ24 :=
(getI a0 (0)).bind fun x616 =>
(getI a0 (IntKind.wrap .i64 ((a0.length : Int) - (1)))).bind fun x617 =>
some (x616.Node_Time, x617.Node_Time)
abbrev ρ35 := (Int)
def g35 (n : Nat) (a0 : TTubeNode) (a1 : Int) : Option ρ35 :=
some (IntKind.wrap .i64 (a0.Node_Time - a1))
abbrev ρ34 := (Int × Bool)
def S34_0 (n : Nat) (a0 : List TTubeNode) (a1 : Int) (c6 : Int) (c7 : Bool) (c8 : Int) (v9 : Int) (v10 : Int) : Option ((Int × Int) ⊕ ρ34) :=
bif (decide (v9 < v10)) then (
(getI a0 (IntKind.wrap .i64 (Int.fdiv (IntKind.wrap .u64 (IntKind.wrap .i64 (v9 + v10))) 2))).bind fun x619 =>
(g35 n x619 a1).bind fun x620 =>
bif (decide (x620 < (0))) then (
some (.inl ((IntKind.wrap .i64 ((IntKind.wrap .i64 (Int.fdiv (IntKind.wrap .u64 (IntKind.wrap .i64 (v9 + v10))) 2)) + (1))), v10))) else (
some (.inl (v9, (IntKind.wrap .i64 (Int.fdiv (IntKind.wrap .u64 (IntKind.wrap .i64 (v9 + v10))) 2)))))) else (
bif (decide (v9 < c8)) then (
(getI a0 v9).bind fun x621 =>
(g35 n x621 a1).bind fun x622 =>
some (.inr (v9, (x622 == (0))))) else (
some (.inr (v9, false))))
def g34 (n : Nat) (a0 : List TTubeNode) (a1 : Int) : Option ρ34 :=
iterO (fun y : Int × Int => S34_0 n a0 a1 (0) false (a0.length : Int) y.1 y.2) n ((0), (a0.length : Int))
abbrev ρ37 := (Int × Int)
def g37 (n : Nat) (a0 : Int) (a1 : Int) : Option ρ37 :=
bif (a1 == (0)) then (
some ((0), (10))) else (
bif (a0 == (-9223372036854775808)) then (
bif (a1 == (-1)) then (
some ((0), (2))) else (
(divO a0 a1).bind fun x631 =>
(modO a0 a1).bind fun x632 =>
bif (x632 != (0)) then (
bif (!((decide (a0 < (0))) == (decide (a1 < (0))))) then (
some ((IntKind.wrap .i64 ((IntKind.wrap .i64 x631) - (1))), (0))) else (
some ((IntKind.wrap .i64 x631), (0)))) else (
some ((IntKind.wrap .i64 x631), (0))))) else (
(divO a0 a1).bind fun x633 =>
(modO a0 a1).bind fun x634 =>
bif (x634 != (0)) then (
bif (!((decide (a0 < (0))) == (decide (a1 < (0))))) then (
some ((IntKind.wrap .i64 ((IntKind.wrap .i64 x633) - (1))), (0))) else (
some ((IntKind.wrap .i64 x633), (0)))) else (
some ((IntKind.wrap .i64 x633), (0)))))
abbrev ρ36 := (TP × Int)
def g36 (n : Nat) (a0 : TP) (a1 : TP) (a2 : Int) (a3 : Int) : Option ρ36 :=
bif (decide (a3 ≤ (0))) then (
some ((⟨(0), (0)⟩ : TP), (10))) else (
bif (decide (a3 > (200000))) then (
some ((⟨(0), (0)⟩ : TP), (4))) else (
bif (decide (a2 < (0))) then (
some ((⟨(0), (0)⟩ : TP), (4))) else (
bif (decide (a2 > a3)) then (
some ((⟨(0), (0)⟩ : TP), (4))) else (
(g20 n a0).bind fun x627 =>
bif (x627 != (0)) then (
(g20 n a0).bind fun x628 =>
some ((⟨(0), (0)⟩ : TP), x628)) else (
(g20 n a1).bind fun x629 =>
bif (x629 != (0)) then (
(g20 n a1).bind fun x630 =>
some ((⟨(0), (0)⟩ : TP), x630)) else (
(g37 n (IntKind.wrap .i64 ((IntKind.wrap .i64 (a1.X - a0.X)) * a2)) a3).bind fun x635 =>
(g37 n (IntKind.wrap .i64 ((IntKind.wrap .i64 (a1.Y - a0.Y)) * a2)) a3).bind fun x636 =>
some ((⟨(IntKind.wrap .i64 (a0.X + x635.1)), (IntKind.wrap .i64 (a0.Y + x636.1))⟩ : TP), (0))))))))
abbrev ρ38 := (Int × Int)
def g38 (n : Nat) (a0 : Int) (a1 : Int) : Option ρ38 :=
(g37 n a0 a1).bind fun x639 =>
bif (x639.2 == (0)) then (
(modO a0 a1).bind fun x640 =>
bif (x640 != (0)) then (
some ((IntKind.wrap .i64 (x639.1 + (1))), x639.2)) else (
some (x639.1, x639.2))) else (
some (x639.1, x639.2))
abbrev ρ25 := (TTubeNode)
def g25 (n : Nat) (a0 : List TTubeNode) (a1 : Int) : Option ρ25 :=
(g34 n a0 a1).bind fun x623 =>
bif x623.2 then (
(getI a0 x623.1).bind fun x624 =>
some (x624)) else (
(getI a0 (IntKind.wrap .i64 (x623.1 - (1)))).bind fun x625 =>
(getI a0 x623.1).bind fun x626 =>
(g36 n (⟨x625.Node_At_X, x625.Node_At_Y⟩ : TP) (⟨x626.Node_At_X, x626.Node_At_Y⟩ : TP) (IntKind.wrap .i64 (a1 - x625.Node_Time)) (IntKind.wrap .i64 (x626.Node_Time - x625.Node_Time))).bind fun x637 =>
(g37 n (IntKind.wrap .i64 ((IntKind.wrap .i64 (x626.Node_Height - x625.Node_Height)) * (IntKind.wrap .i64 (a1 - x625.Node_Time)))) (IntKind.wrap .i64 (x626.Node_Time - x625.Node_Time))).bind fun x638 =>
(g38 n (IntKind.wrap .i64 ((IntKind.wrap .i64 (x626.Radius - x625.Radius)) * (IntKind.wrap .i64 (a1 - x625.Node_Time)))) (IntKind.wrap .i64 (x626.Node_Time - x625.Node_Time))).bind fun x641 =>
(g38 n (IntKind.wrap .i64 ((IntKind.wrap .i64 (x626.Band - x625.Band)) * (IntKind.wrap .i64 (a1 - x625.Node_Time)))) (IntKind.wrap .i64 (x626.Node_Time - x625.Node_Time))).bind fun x642 =>
some (⟨a1, x637.1.X, x637.1.Y, (IntKind.wrap .i64 (x625.Node_Height + x638.1)), (IntKind.wrap .i64 (x625.Radius + x641.1)), (IntKind.wrap .i64 (x625.Band + x642.1))⟩ : TTubeNode))
abbrev ρ8 := (TTubeNode × Int)
def g8 (n : Nat) (a0 : List TTubeNode) (a1 : Int) : Option ρ8 :=
(g7 n a0).bind fun x615 =>
bif (x615 != (0)) then (
some ((⟨(0), (0), (0), (0), (0), (0)⟩ : TTubeNode), x615)) else (
(g24 n a0).bind fun x618 =>
bif (decide (a1 < x618.1)) then (
some ((⟨(0), (0), (0), (0), (0), (0)⟩ : TTubeNode), (12))) else (
bif (decide (a1 > x618.2)) then (
some ((⟨(0), (0), (0), (0), (0), (0)⟩ : TTubeNode), (12))) else (
(g25 n a0 a1).bind fun x643 =>
some (x643, (0)))))
abbrev ρ40 := (Int × Int)
def g40 (n : Nat) (a0 : TKind) (a1 : Int) (a2 : Int) : Option ρ40 :=
(g18 n a0).bind fun x652 =>
bif (x652 != (0)) then (
some ((0), x652)) else (
bif (decide (a1 < (0))) then (
some ((0), (4))) else (
bif (decide (a1 > (60000))) then (
some ((0), (4))) else (
bif (decide (a2 < (0))) then (
some ((0), (4))) else (
bif (decide (a2 > (60000))) then (
some ((0), (4))) else (
bif (decide (a1 > a0.Ceiling)) then (
some ((0), (20))) else (
bif (decide (a2 > a0.Ceiling)) then (
some ((0), (20))) else (
bif (decide (a2 ≥ a1)) then (
(g38 n (IntKind.wrap .i64 (a2 - a1)) a0.Climb).bind fun x653 =>
some (x653.1, x653.2)) else (
(g38 n (IntKind.wrap .i64 (a1 - a2)) a0.Descent).bind fun x654 =>
some (x654.1, x654.2)))))))))
abbrev ρ42 := (Bool)
def g42 (n : Nat) (a0 : TTubeNode) (a1_0 : Int) : Option ρ42 :=
some (decide (a0.Node_Time ≥ a1_0))
abbrev ρ41 := (Int)
def S41_0 (n : Nat) (a0 : List TTubeNode) (a1_0_0 : Int) (c4 : Int) (c7 : Int) (v8 : Int) : Option ((Int) ⊕ ρ41) :=
bif (decide (v8 < c7)) then (
(getI a0 v8).bind fun x658 =>
(g42 n x658 a1_0_0).bind fun x659 =>
bif x659 then (
some (.inr (v8))) else (
some (.inl (IntKind.wrap .i64 (v8 + (1)))))) else (
some (.inr (-1)))
def g41 (n : Nat) (a0 : List TTubeNode) (a1_0_0 : Int) : Option ρ41 :=
iterO (fun y : Int => S41_0 n a0 a1_0_0 (0) (a0.length : Int) y) n (0)
abbrev ρ29 := ((List TTubeNode) × Int)
def S29_0 (n : Nat) (c3 : Int) (c4 : Int) (c84 : Int) (k0_0 : ByteArray) (k0_1 : Int) (k0_2 : Int) (k0_3 : ByteArray) (k0_4 : List TTubeNode) (k0_5 : List TTubeNode) (k0_6 : Int) (k0_7 : Int) (k0_8 : Int) (k0_9 : Int) (k0_10 : Int) (k0_11 : Int) (k0_12 : ByteArray) (k0_13 : Int) (k0_14 : Int) (k0_15 : Int) (k0_16 : Int) (k0_17 : Int) (k0_18 : Int) (k0_19 : Int) (k0_20 : Int) (k0_21 : List TTubeNode) (k89_0 : Int) (v85 : Int) (L90000 : List TTubeNode) : Option ((Int × List TTubeNode) ⊕ ρ29) :=
bif (decide (v85 < c84)) then (
(getI L90000 v85).bind fun x664 =>
bif (decide (x664.Node_Time ≥ k89_0)) then (
some (.inl ((IntKind.wrap .i64 (v85 + (1))), (L90000.set ((v85 : Int).toNat) (⟨x664.Node_Time, x664.Node_At_X, x664.Node_At_Y, k0_2, x664.Radius, x664.Band⟩ : TTubeNode))))) else (
(g37 n (IntKind.wrap .i64 ((IntKind.wrap .i64 (k0_2 - k0_9)) * (IntKind.wrap .i64 (x664.Node_Time - k0_6)))) c4).bind fun x665 =>
some (.inl ((IntKind.wrap .i64 (v85 + (1))), (L90000.set ((v85 : Int).toNat) (⟨x664.Node_Time, x664.Node_At_X, x664.Node_At_Y, (IntKind.wrap .i64 (k0_9 + x665.1)), x664.Radius, x664.Band⟩ : TTubeNode)))))) else (
some (.inr (L90000, (0))))
def g29 (n : Nat) (a0 : Ttask) : Option ρ29 :=
(g40 n (⟨a0.kind_Name, a0.kind_Wake, a0.kind_Ceiling, a0.kind_Climb, a0.kind_Descent, a0.kind_Slow, a0.kind_Fast⟩ : TKind) a0.now_Node_Height a0.Clearance_Value).bind fun x655 =>
bif (x655.2 != (0)) then (
some ([], x655.2)) else (
(roomO a0.later.length 48).bind fun x656 =>
bif (decide (x655.1 > (0))) then (
bif (decide ((a0.later.length : Int) > (0))) then (
(getI a0.later (IntKind.wrap .i64 ((a0.later.length : Int) - (1)))).bind fun x657 =>
bif (decide ((IntKind.wrap .i64 (a0.now_Node_Time + x655.1)) < x657.Node_Time)) then (
(g41 n a0.later (IntKind.wrap .i64 (a0.now_Node_Time + x655.1))).bind fun x660 =>
(getI a0.later x660).bind fun x661 =>
bif (x661.Node_Time != (IntKind.wrap .i64 (a0.now_Node_Time + x655.1))) then (
(g8 n a0.whole (IntKind.wrap .i64 (a0.now_Node_Time + x655.1))).bind fun x662 =>
(insO 48 a0.later x660 ([x662.1] : List TTubeNode)).bind fun x663 =>
iterO (fun y : Int × List TTubeNode => S29_0 n (0) x655.1 (x663.length : Int) a0.Clearance_Call a0.Clearance_Kind a0.Clearance_Value a0.Clearance_Fix a0.before a0.later a0.now_Node_Time a0.now_Node_At_X a0.now_Node_At_Y a0.now_Node_Height a0.now_Radius a0.now_Band a0.kind_Name a0.kind_Wake a0.kind_Ceiling a0.kind_Climb a0.kind_Descent a0.kind_Slow a0.kind_Fast a0.fix_X a0.fix_Y a0.whole (IntKind.wrap .i64 (a0.now_Node_Time + x655.1)) y.1 y.2) n ((0), x663)) else (
iterO (fun y : Int × List TTubeNode => S29_0 n (0) x655.1 (a0.later.length : Int) a0.Clearance_Call a0.Clearance_Kind a0.Clearance_Value a0.Clearance_Fix a0.before a0.later a0.now_Node_Time a0.now_Node_At_X a0.now_Node_At_Y a0.now_Node_Height a0.now_Radius a0.now_Band a0.kind_Name a0.kind_Wake a0.kind_Ceiling a0.kind_Climb a0.kind_Descent a0.kind_Slow a0.kind_Fast a0.fix_X a0.fix_Y a0.whole (IntKind.wrap .i64 (a0.now_Node_Time + x655.1)) y.1 y.2) n ((0), a0.later))) else (
iterO (fun y : Int × List TTubeNode => S29_0 n (0) x655.1 (a0.later.length : Int) a0.Clearance_Call a0.Clearance_Kind a0.Clearance_Value a0.Clearance_Fix a0.before a0.later a0.now_Node_Time a0.now_Node_At_X a0.now_Node_At_Y a0.now_Node_Height a0.now_Radius a0.now_Band a0.kind_Name a0.kind_Wake a0.kind_Ceiling a0.kind_Climb a0.kind_Descent a0.kind_Slow a0.kind_Fast a0.fix_X a0.fix_Y a0.whole (IntKind.wrap .i64 (a0.now_Node_Time + x655.1)) y.1 y.2) n ((0), a0.later))) else (
iterO (fun y : Int × List TTubeNode => S29_0 n (0) x655.1 (a0.later.length : Int) a0.Clearance_Call a0.Clearance_Kind a0.Clearance_Value a0.Clearance_Fix a0.before a0.later a0.now_Node_Time a0.now_Node_At_X a0.now_Node_At_Y a0.now_Node_Height a0.now_Radius a0.now_Band a0.kind_Name a0.kind_Wake a0.kind_Ceiling a0.kind_Climb a0.kind_Descent a0.kind_Slow a0.kind_Fast a0.fix_X a0.fix_Y a0.whole (IntKind.wrap .i64 (a0.now_Node_Time + x655.1)) y.1 y.2) n ((0), a0.later))) else (
iterO (fun y : Int × List TTubeNode => S29_0 n (0) x655.1 (a0.later.length : Int) a0.Clearance_Call a0.Clearance_Kind a0.Clearance_Value a0.Clearance_Fix a0.before a0.later a0.now_Node_Time a0.now_Node_At_X a0.now_Node_At_Y a0.now_Node_Height a0.now_Radius a0.now_Band a0.kind_Name a0.kind_Wake a0.kind_Ceiling a0.kind_Climb a0.kind_Descent a0.kind_Slow a0.kind_Fast a0.fix_X a0.fix_Y a0.whole (IntKind.wrap .i64 (a0.now_Node_Time + x655.1)) y.1 y.2) n ((0), a0.later)))
abbrev ρ9 := (TP)
def g9 (n : Nat) (a0 : TP) (a1 : TP) : Option ρ9 :=
some (⟨(IntKind.wrap .i64 (a0.X - a1.X)), (IntKind.wrap .i64 (a0.Y - a1.Y))⟩ : TP)
abbrev ρ60 := (Int)
def g60 (n : Nat) (a0 : TP) (a1 : TP) : Option ρ60 :=
some (IntKind.wrap .i64 ((IntKind.wrap .i64 (a0.X * a1.X)) + (IntKind.wrap .i64 (a0.Y * a1.Y))))
abbrev ρ54 := (Int)
def g54 (n : Nat) (a0 : TP) (a1 : TP) : Option ρ54 :=
(g9 n a0 a1).bind fun x678 =>
(g60 n x678 x678).bind fun x679 =>
some (x679)
abbrev ρ55 := (Int)
def S55_0 (n : Nat) (a0 : Int) (c2 : Int) (v3 : Int) (v4 : Int) : Option ((Int × Int) ⊕ ρ55) :=
bif (decide (v3 < v4)) then (
bif (decide ((IntKind.wrap .i64 ((IntKind.wrap .i64 (v3 + (IntKind.wrap .i64 (Int.tdiv (IntKind.wrap .i64 ((IntKind.wrap .i64 (v4 - v3)) + (1))) (2))))) * (IntKind.wrap .i64 (v3 + (IntKind.wrap .i64 (Int.tdiv (IntKind.wrap .i64 ((IntKind.wrap .i64 (v4 - v3)) + (1))) (2))))))) ≤ a0)) then (
some (.inl ((IntKind.wrap .i64 (v3 + (IntKind.wrap .i64 (Int.tdiv (IntKind.wrap .i64 ((IntKind.wrap .i64 (v4 - v3)) + (1))) (2))))), v4))) else (
some (.inl (v3, (IntKind.wrap .i64 ((IntKind.wrap .i64 (v3 + (IntKind.wrap .i64 (Int.tdiv (IntKind.wrap .i64 ((IntKind.wrap .i64 (v4 - v3)) + (1))) (2))))) - (1))))))) else (
some (.inr (v3)))
def g55 (n : Nat) (a0 : Int) : Option ρ55 :=
bif (decide (a0 ≤ (0))) then (
some (0)) else (
iterO (fun y : Int × Int => S55_0 n a0 (0) y.1 y.2) n ((0), (3037000499)))
abbrev ρ47 := (Int × Int)
def g47 (n : Nat) (a0 : TP) (a1 : TP) : Option ρ47 :=
(g54 n a0 a1).bind fun x680 =>
(g55 n x680).bind fun x681 =>
bif (decide ((IntKind.wrap .i64 (x681 * x681)) < x680)) then (
some (x681, (IntKind.wrap .i64 (x681 + (1))))) else (
some (x681, x681))
abbrev ρ45 := (Int)
def g45 (n : Nat) (a0 : Ttask) : Option ρ45 :=
(getI a0.later (0)).bind fun x677 =>
(g47 n (⟨a0.now_Node_At_X, a0.now_Node_At_Y⟩ : TP) (⟨x677.Node_At_X, x677.Node_At_Y⟩ : TP)).bind fun x682 =>
(getI a0.later (0)).bind fun x683 =>
(divO x682.1 (IntKind.wrap .i64 (x683.Node_Time - a0.now_Node_Time))).bind fun x684 =>
some (IntKind.wrap .i64 x684)
abbrev ρ46 := (TP)
def g46 (n : Nat) (a0 : TP) (a1 : TP) : Option ρ46 :=
some (⟨(IntKind.wrap .i64 (a0.X + a1.X)), (IntKind.wrap .i64 (a0.Y + a1.Y))⟩ : TP)
abbrev ρ30 := ((List TTubeNode) × Int)
def S30_0 (n : Nat) (c3 : Int) (c13 : Int) (k0_0 : ByteArray) (k0_1 : Int) (k0_2 : Int) (k0_3 : ByteArray) (k0_4 : List TTubeNode) (k0_5 : List TTubeNode) (k0_6 : Int) (k0_7 : Int) (k0_8 : Int) (k0_9 : Int) (k0_10 : Int) (k0_11 : Int) (k0_12 : ByteArray) (k0_13 : Int) (k0_14 : Int) (k0_15 : Int) (k0_16 : Int) (k0_17 : Int) (k0_18 : Int) (k0_19 : Int) (k0_20 : Int) (k0_21 : List TTubeNode) (v14 : Int) (L90000 : List TTubeNode) : Option ((Int × List TTubeNode) ⊕ ρ30) :=
bif (decide (v14 < c13)) then (
(g45 n (⟨k0_0, k0_1, k0_2, k0_3, k0_4, k0_5, k0_6, k0_7, k0_8, k0_9, k0_10, k0_11, k0_12, k0_13, k0_14, k0_15, k0_16, k0_17, k0_18, k0_19, k0_20, k0_21⟩ : Ttask)).bind fun x685 =>
(getI L90000 v14).bind fun x686 =>
(g44 n k0_2 (IntKind.wrap .i64 (x685 * (IntKind.wrap .i64 (x686.Node_Time - k0_6))))).bind fun x687 =>
bif (x687.2 != (0)) then (
some (.inr ([], x687.2))) else (
(g46 n (⟨k0_7, k0_8⟩ : TP) x687.1).bind fun x688 =>
(getI L90000 v14).bind fun x689 =>
(getI (L90000.set ((v14 : Int).toNat) (⟨x689.Node_Time, x688.X, x688.Y, x689.Node_Height, x689.Radius, x689.Band⟩ : TTubeNode)) v14).bind fun x690 =>
(g20 n (⟨x690.Node_At_X, x690.Node_At_Y⟩ : TP)).bind fun x691 =>
bif (x691 != (0)) then (
some (.inr ([], x691))) else (
some (.inl ((IntKind.wrap .i64 (v14 + (1))), (L90000.set ((v14 : Int).toNat) (⟨x689.Node_Time, x688.X, x688.Y, x689.Node_Height, x689.Radius, x689.Band⟩ : TTubeNode))))))) else (
some (.inr (L90000, (0))))
def g30 (n : Nat) (a0 : Ttask) : Option ρ30 :=
(roomO a0.later.length 48).bind fun x676 =>
iterO (fun y : Int × List TTubeNode => S30_0 n (0) (a0.later.length : Int) a0.Clearance_Call a0.Clearance_Kind a0.Clearance_Value a0.Clearance_Fix a0.before a0.later a0.now_Node_Time a0.now_Node_At_X a0.now_Node_At_Y a0.now_Node_Height a0.now_Radius a0.now_Band a0.kind_Name a0.kind_Wake a0.kind_Ceiling a0.kind_Climb a0.kind_Descent a0.kind_Slow a0.kind_Fast a0.fix_X a0.fix_Y a0.whole y.1 y.2) n ((0), a0.later)
abbrev ρ31 := ((List TTubeNode) × Int)
def S31_0 (n : Nat) (c3 : Int) (c33 : Int) (k0_0 : ByteArray) (k0_1 : Int) (k0_2 : Int) (k0_3 : ByteArray) (k0_4 : List TTubeNode) (k0_5 : List TTubeNode) (k0_6 : Int) (k0_7 : Int) (k0_8 : Int) (k0_9 : Int) (k0_10 : Int) (k0_11 : Int) (k0_12 : ByteArray) (k0_13 : Int) (k0_14 : Int) (k0_15 : Int) (k0_16 : Int) (k0_17 : Int) (k0_18 : Int) (k0_19 : Int) (k0_20 : Int) (k0_21 : List TTubeNode) (v34 : Int) (L90000 : List TTubeNode) (bv88_0 : Int) (bv88_1 : Int) (bv88_2 : Int) (bv88_3 : Int) (bv88_4 : Int) (bv88_5 : Int) : Option ((Int × List TTubeNode × Int × Int × Int × Int × Int × Int) ⊕ ρ31) :=
bif (decide (v34 < c33)) then (
(getI L90000 v34).bind fun x702 =>
(g47 n (⟨bv88_1, bv88_2⟩ : TP) (⟨x702.Node_At_X, x702.Node_At_Y⟩ : TP)).bind fun x703 =>
(g38 n x703.2 k0_2).bind fun x704 =>
(getI L90000 v34).bind fun x705 =>
(getI (L90000.set ((v34 : Int).toNat) (⟨(IntKind.wrap .i64 (bv88_0 + (if x704.1 > (1) then x704.1 else (1)))), x705.Node_At_X, x705.Node_At_Y, x705.Node_Height, x705.Radius, x705.Band⟩ : TTubeNode)) v34).bind fun x706 =>
bif (decide (x706.Node_Time > (200000))) then (
some (.inr ([], (12)))) else (
(getI (L90000.set ((v34 : Int).toNat) (⟨(IntKind.wrap .i64 (bv88_0 + (if x704.1 > (1) then x704.1 else (1)))), x705.Node_At_X, x705.Node_At_Y, x705.Node_Height, x705.Radius, x705.Band⟩ : TTubeNode)) v34).bind fun x707 =>
some (.inl ((IntKind.wrap .i64 (v34 + (1))), (L90000.set ((v34 : Int).toNat) (⟨(IntKind.wrap .i64 (bv88_0 + (if x704.1 > (1) then x704.1 else (1)))), x705.Node_At_X, x705.Node_At_Y, x705.Node_Height, x705.Radius, x705.Band⟩ : TTubeNode)), x707.Node_Time, x707.Node_At_X, x707.Node_At_Y, x707.Node_Height, x707.Radius, x707.Band)))) else (
some (.inr (L90000, (0))))
def g31 (n : Nat) (a0 : Ttask) : Option ρ31 :=
bif (decide (a0.Clearance_Value < a0.kind_Slow)) then (
some ([], (4))) else (
bif (decide (a0.Clearance_Value > a0.kind_Fast)) then (
some ([], (4))) else (
(roomO a0.later.length 48).bind fun x701 =>
iterO (fun y : Int × List TTubeNode × Int × Int × Int × Int × Int × Int => S31_0 n (0) (a0.later.length : Int) a0.Clearance_Call a0.Clearance_Kind a0.Clearance_Value a0.Clearance_Fix a0.before a0.later a0.now_Node_Time a0.now_Node_At_X a0.now_Node_At_Y a0.now_Node_Height a0.now_Radius a0.now_Band a0.kind_Name a0.kind_Wake a0.kind_Ceiling a0.kind_Climb a0.kind_Descent a0.kind_Slow a0.kind_Fast a0.fix_X a0.fix_Y a0.whole y.1 y.2.1 y.2.2.1 y.2.2.2.1 y.2.2.2.2.1 y.2.2.2.2.2.1 y.2.2.2.2.2.2.1 y.2.2.2.2.2.2.2) n ((0), a0.later, a0.now_Node_Time, a0.now_Node_At_X, a0.now_Node_At_Y, a0.now_Node_Height, a0.now_Radius, a0.now_Band)))
abbrev ρ32 := ((List TTubeNode) × Int)
def g32 (n : Nat) (a0 : Ttask) : Option ρ32 :=
(g45 n a0).bind fun x716 =>
bif (x716 == (0)) then (
some ([], (10))) else (
(g47 n (⟨a0.now_Node_At_X, a0.now_Node_At_Y⟩ : TP) (⟨a0.fix_X, a0.fix_Y⟩ : TP)).bind fun x717 =>
bif (x717.2 == (0)) then (
some ([], (0))) else (
(g38 n x717.2 x716).bind fun x718 =>
bif (decide ((IntKind.wrap .i64 (a0.now_Node_Time + x718.1)) > (200000))) then (
some ([], (12))) else (
some (([(⟨(IntKind.wrap .i64 (a0.now_Node_Time + x718.1)), a0.fix_X, a0.fix_Y, a0.now_Node_Height, a0.now_Radius, a0.now_Band⟩ : TTubeNode)] : List TTubeNode), (0)))))
abbrev ρ21 := ((List TTubeNode) × Bool × Int)
def g21 (n : Nat) (a0 : Ttask) : Option ρ21 :=
bif (a0.Clearance_Kind == (0)) then (
(g29 n a0).bind fun x666 =>
some (x666.1, false, x666.2)) else (
bif ((a0.later.length : Int) == (0)) then (
some ([], true, (0))) else (
bif (a0.Clearance_Kind == (1)) then (
(g30 n a0).bind fun x692 =>
some (x692.1, false, x692.2)) else (
bif (a0.Clearance_Kind == (2)) then (
(g31 n a0).bind fun x708 =>
some (x708.1, false, x708.2)) else (
bif (a0.Clearance_Kind == (3)) then (
(g32 n a0).bind fun x719 =>
some (x719.1, false, x719.2)) else (
some ([], true, (0)))))))
abbrev ρ6 := ((List TTubeNode) × Int)
def S6_1 (n : Nat) (a2 : Int) (c11 : Int) (c16 : Int) (a0 : List TTubeNode) (c55 : Int) (k100070_0 : Int) (k100070_1 : Int) (k100070_2 : Int) (k100070_3 : Int) (k100070_4 : Int) (k100070_5 : Int) (v56 : Int) (L90000 : List TTubeNode) (L90001 : List TTubeNode) (bv100081_0 : ByteArray) (bv100081_1 : Int) (bv100081_2 : Int) (bv100081_3 : ByteArray) (bv100081_6 : Int) (bv100081_7 : Int) (bv100081_8 : Int) (bv100081_9 : Int) (bv100081_10 : Int) (bv100081_11 : Int) (bv100081_12 : ByteArray) (bv100081_13 : Int) (bv100081_14 : Int) (bv100081_15 : Int) (bv100081_16 : Int) (bv100081_17 : Int) (bv100081_18 : Int) (bv100081_19 : Int) (bv100081_20 : Int) (bv100081_21 : List TTubeNode) : Option ((Int × List TTubeNode × List TTubeNode × ByteArray × Int × Int × ByteArray × Int × Int × Int × Int × Int × Int × ByteArray × Int × Int × Int × Int × Int × Int × Int × Int × List TTubeNode) ⊕ ρ6) :=
bif (decide (v56 < c55)) then (
(getI a0 v56).bind fun x645 =>
bif (decide (x645.Node_Time < a2)) then (
(roomO (L90000.length + ([x645] : List TTubeNode).length) 48).bind fun x647 =>
bif (decide (x645.Node_Time > a2)) then (
(roomO (L90001.length + ([x645] : List TTubeNode).length) 48).bind fun x649 =>
some (.inl ((IntKind.wrap .i64 (v56 + (1))), (L90000 ++ ([x645] : List TTubeNode)), (L90001 ++ ([x645] : List TTubeNode)), bv100081_0, bv100081_1, bv100081_2, bv100081_3, bv100081_6, bv100081_7, bv100081_8, bv100081_9, bv100081_10, bv100081_11, bv100081_12, bv100081_13, bv100081_14, bv100081_15, bv100081_16, bv100081_17, bv100081_18, bv100081_19, bv100081_20, bv100081_21))) else (
some (.inl ((IntKind.wrap .i64 (v56 + (1))), (L90000 ++ ([x645] : List TTubeNode)), L90001, bv100081_0, bv100081_1, bv100081_2, bv100081_3, bv100081_6, bv100081_7, bv100081_8, bv100081_9, bv100081_10, bv100081_11, bv100081_12, bv100081_13, bv100081_14, bv100081_15, bv100081_16, bv100081_17, bv100081_18, bv100081_19, bv100081_20, bv100081_21)))) else (
bif (decide (x645.Node_Time > a2)) then (
(roomO (L90001.length + ([x645] : List TTubeNode).length) 48).bind fun x651 =>
some (.inl ((IntKind.wrap .i64 (v56 + (1))), L90000, (L90001 ++ ([x645] : List TTubeNode)), bv100081_0, bv100081_1, bv100081_2, bv100081_3, bv100081_6, bv100081_7, bv100081_8, bv100081_9, bv100081_10, bv100081_11, bv100081_12, bv100081_13, bv100081_14, bv100081_15, bv100081_16, bv100081_17, bv100081_18, bv100081_19, bv100081_20, bv100081_21))) else (
some (.inl ((IntKind.wrap .i64 (v56 + (1))), L90000, L90001, bv100081_0, bv100081_1, bv100081_2, bv100081_3, bv100081_6, bv100081_7, bv100081_8, bv100081_9, bv100081_10, bv100081_11, bv100081_12, bv100081_13, bv100081_14, bv100081_15, bv100081_16, bv100081_17, bv100081_18, bv100081_19, bv100081_20, bv100081_21))))) else (
(g21 n (⟨bv100081_0, bv100081_1, bv100081_2, bv100081_3, L90000, L90001, bv100081_6, bv100081_7, bv100081_8, bv100081_9, bv100081_10, bv100081_11, bv100081_12, bv100081_13, bv100081_14, bv100081_15, bv100081_16, bv100081_17, bv100081_18, bv100081_19, bv100081_20, bv100081_21⟩ : Ttask)).bind fun x723 =>
bif (x723.2.2 != (0)) then (
some (.inr ([], x723.2.2))) else (
bif x723.2.1 then (
(roomO a0.length 48).bind fun x728 =>
some (.inr (a0, (0)))) else (
(catO 48 ([L90000, ([(⟨k100070_0, k100070_1, k100070_2, k100070_3, k100070_4, k100070_5⟩ : TTubeNode)] : List TTubeNode), x723.1] : List (List TTubeNode))).bind fun x729 =>
bif (decide ((x729.length : Int) > (64))) then (
some (.inr ([], (2)))) else (
some (.inr (x729, (0)))))))
def S6_0 (n : Nat) (a2 : Int) (c11 : Int) (c28 : Int) (a0 : List TTubeNode) (k1_0 : ByteArray) (k1_1 : Int) (k1_2 : Int) (k1_3 : ByteArray) (k2_0 : ByteArray) (k2_1 : Int) (k2_2 : Int) (k2_3 : Int) (k2_4 : Int) (k2_5 : Int) (k2_6 : Int) (k3_0 : Int) (k3_1 : Int) (v29 : Int) : Option ((Int) ⊕ ρ6) :=
bif (decide (v29 < c28)) then (
bif (v29 == (0 : Int)) then (
(g14 n a0).bind fun x590 =>
bif (x590 != (0)) then (
some (.inr ([], x590))) else (
some (.inl (IntKind.wrap .i64 (v29 + (1)))))) else (
bif (v29 == (1 : Int)) then (
(g15 n k1_0 k1_1 k1_2 k1_3).bind fun x602 =>
bif (x602 != (0)) then (
some (.inr ([], x602))) else (
some (.inl (IntKind.wrap .i64 (v29 + (1)))))) else (
bif (v29 == (2 : Int)) then (
(g17 n k2_0 k2_1 k2_2 k2_3 k2_4 k2_5 k2_6).bind fun x611 =>
bif (x611 != (0)) then (
some (.inr ([], x611))) else (
some (.inl (IntKind.wrap .i64 (v29 + (1)))))) else (
bif (v29 == (3 : Int)) then (
(g19 n k3_0 k3_1).bind fun x614 =>
bif (x614 != (0)) then (
some (.inr ([], x614))) else (
some (.inl (IntKind.wrap .i64 (v29 + (1)))))) else (
none))))) else (
(g8 n a0 a2).bind fun x644 =>
bif (x644.2 != (0)) then (
some (.inr ([], x644.2))) else (
((iterO (fun y : Int × List TTubeNode × List TTubeNode × ByteArray × Int × Int × ByteArray × Int × Int × Int × Int × Int × Int × ByteArray × Int × Int × Int × Int × Int × Int × Int × Int × List TTubeNode => S6_1 n a2 c11 x644.2 a0 (a0.length : Int) x644.1.Node_Time x644.1.Node_At_X x644.1.Node_At_Y x644.1.Node_Height x644.1.Radius x644.1.Band y.1 y.2.1 y.2.2.1 y.2.2.2.1 y.2.2.2.2.1 y.2.2.2.2.2.1 y.2.2.2.2.2.2.1 y.2.2.2.2.2.2.2.1 y.2.2.2.2.2.2.2.2.1 y.2.2.2.2.2.2.2.2.2.1 y.2.2.2.2.2.2.2.2.2.2.1 y.2.2.2.2.2.2.2.2.2.2.2.1 y.2.2.2.2.2.2.2.2.2.2.2.2.1 y.2.2.2.2.2.2.2.2.2.2.2.2.2.1 y.2.2.2.2.2.2.2.2.2.2.2.2.2.2.1 y.2.2.2.2.2.2.2.2.2.2.2.2.2.2.2.1 y.2.2.2.2.2.2.2.2.2.2.2.2.2.2.2.2.1 y.2.2.2.2.2.2.2.2.2.2.2.2.2.2.2.2.2.1 y.2.2.2.2.2.2.2.2.2.2.2.2.2.2.2.2.2.2.1 y.2.2.2.2.2.2.2.2.2.2.2.2.2.2.2.2.2.2.2.1 y.2.2.2.2.2.2.2.2.2.2.2.2.2.2.2.2.2.2.2.2.1 y.2.2.2.2.2.2.2.2.2.2.2.2.2.2.2.2.2.2.2.2.2.1 y.2.2.2.2.2.2.2.2.2.2.2.2.2.2.2.2.2.2.2.2.2.2) n ((0), [], [], k1_0, k1_1, k1_2, k1_3, x644.1.Node_Time, x644.1.Node_At_X, x644.1.Node_At_Y, x644.1.Node_Height, x644.1.Radius, x644.1.Band, k2_0, k2_1, k2_2, k2_3, k2_4, k2_5, k2_6, k3_0, k3_1, a0)).map Sum.inr)))
def g6 (n : Nat) (a0 : List TTubeNode) (a1 : TClearance) (a2 : Int) (a3 : TKind) (a4 : TP) : Option ρ6 :=
iterO (fun y : Int => S6_0 n a2 (0) (4) a0 a1.Call a1.Kind a1.Value a1.Fix a3.Name a3.Wake a3.Ceiling a3.Climb a3.Descent a3.Slow a3.Fast a4.X a4.Y y) n (0)
abbrev ρ13 := (Int × Int)
def S13_1 (n : Nat) (a0 : List TTubeNode) (a1 : List TTubeNode) (c4 : Int) (c10 : Int) (v11 : Int) : Option ((Int) ⊕ ρ13) :=
bif (decide (v11 ≤ c10)) then (
(g8 n a0 v11).bind fun x738 =>
(g8 n a1 v11).bind fun x739 =>
bif (x738.2 != x739.2) then (
some (.inr (v11, (0)))) else (
bif (!(decide ((⟨x738.1.Node_At_X, x738.1.Node_At_Y⟩ : TP) = (⟨x739.1.Node_At_X, x739.1.Node_At_Y⟩ : TP)))) then (
some (.inr (v11, (0)))) else (
bif (x738.1.Node_Height != x739.1.Node_Height) then (
some (.inr (v11, (0)))) else (
some (.inl (IntKind.wrap .i64 (v11 + (1)))))))) else (
some (.inr ((0), (8))))
def S13_0 (n : Nat) (a0 : List TTubeNode) (a1 : List TTubeNode) (c4 : Int) (c18 : List (List TTubeNode)) (c19 : Int) (v20 : Int) : Option ((Int) ⊕ ρ13) :=
bif (decide (v20 < c19)) then (
(getI c18 v20).bind fun x732 =>
(g7 n x732).bind fun x733 =>
bif (x733 != (0)) then (
some (.inr ((0), x733))) else (
some (.inl (IntKind.wrap .i64 (v20 + (1)))))) else (
(getI a0 (0)).bind fun x734 =>
(getI a1 (0)).bind fun x735 =>
(getI a0 (IntKind.wrap .i64 ((a0.length : Int) - (1)))).bind fun x736 =>
(getI a1 (IntKind.wrap .i64 ((a1.length : Int) - (1)))).bind fun x737 =>
bif (decide ((IntKind.wrap .i64 ((if x737.Node_Time > x736.Node_Time then x737.Node_Time else x736.Node_Time) - (if x735.Node_Time < x734.Node_Time then x735.Node_Time else x734.Node_Time))) > (20000))) then (
some (.inr ((0), (2)))) else (
((iterO (fun y : Int => S13_1 n a0 a1 c4 (if x737.Node_Time > x736.Node_Time then x737.Node_Time else x736.Node_Time) y) n (if x735.Node_Time < x734.Node_Time then x735.Node_Time else x734.Node_Time)).map Sum.inr)))
def g13 (n : Nat) (a0 : List TTubeNode) (a1 : List TTubeNode) : Option ρ13 :=
iterO (fun y : Int => S13_0 n a0 a1 (0) ([a0, a1] : List (List TTubeNode)) (([a0, a1] : List (List TTubeNode)).length : Int) y) n (0)
abbrev ρ4 := (Bool)
def g4 (n : Nat) : Option ρ4 :=
(g10 n).bind fun x581 =>
(g11 n (9500)).bind fun x582 =>
(g12 n).bind fun x583 =>
(g6 n x581 x582 (0) x583 (⟨(0), (0)⟩ : TP)).bind fun x730 =>
(g10 n).bind fun x731 =>
(g13 n x731 x730.1).bind fun x740 =>
bif (x730.2 == (0)) then (
bif (x740.2 == (0)) then (
bif ((x730.1.length : Int) == (3)) then (
(getI x730.1 (1)).bind fun x741 =>
bif (x741.Node_Time == (10)) then (
(getI x730.1 (1)).bind fun x742 =>
bif (x742.Node_Height == (9500)) then (
(getI x730.1 (1)).bind fun x743 =>
bif (x743.Node_At_X == (1000)) then (
(getI x730.1 (2)).bind fun x744 =>
bif (x744.Node_Height == (9500)) then (
(getI x730.1 (1)).bind fun x745 =>
bif (x745.Radius == (100)) then (
some (x740.1 == (1))) else (
some (false))) else (
some (false))) else (
some (false))) else (
some (false))) else (
some (false))) else (
some (false))) else (
some (false))) else (
some (false))
abbrev ρ5 := (Bool)
def S5_0 (n : Nat) (a2 : Int) (c6 : Bool) (a0 : List (List TTubeNode)) (c14 : Int) (v15 : Int) : Option ((Int) ⊕ ρ5) :=
bif (decide (v15 < c14)) then (
(getI a0 v15).bind fun x747 =>
(g7 n x747).bind fun x748 =>
bif (x748 != (0)) then (
some (.inr (false))) else (
(getI x747 (IntKind.wrap .i64 ((x747.length : Int) - (1)))).bind fun x749 =>
(getI x747 (0)).bind fun x750 =>
bif (decide ((IntKind.wrap .i64 (x749.Node_Time - x750.Node_Time)) > a2)) then (
some (.inr (false))) else (
some (.inl (IntKind.wrap .i64 (v15 + (1))))))) else (
some (.inr (true)))
def g5 (n : Nat) (a0 : List (List TTubeNode)) (a1 : Int) (a2 : Int) : Option ρ5 :=
bif (decide ((a0.length : Int) > a1)) then (
some (false)) else (
iterO (fun y : Int => S5_0 n a2 false a0 (a0.length : Int) y) n (0))
abbrev ρ3 := (Bool)
def S3_0 (n : Nat) (a0 : List TTubeNode) (a2 : Int) (c10 : Bool) (c11 : List TTubeNode) (v13 : Int) : Option ((Int) ⊕ ρ3) :=
bif (decide (v13 ≤ a2)) then (
(g8 n a0 v13).bind fun x757 =>
(g8 n c11 v13).bind fun x758 =>
bif (x757.2 != (0)) then (
some (.inr (false))) else (
bif (x758.2 != (0)) then (
some (.inr (false))) else (
(g9 n (⟨x757.1.Node_At_X, x757.1.Node_At_Y⟩ : TP) (⟨x758.1.Node_At_X, x758.1.Node_At_Y⟩ : TP)).bind fun x759 =>
bif (decide ((if (IntKind.wrap .i64 (x758.1.Node_Height - x757.1.Node_Height)) > (if (IntKind.wrap .i64 (x757.1.Node_Height - x758.1.Node_Height)) > (if (IntKind.wrap .i64 (0 - x759.Y)) > (if x759.Y > (if (IntKind.wrap .i64 (0 - x759.X)) > x759.X then (IntKind.wrap .i64 (0 - x759.X)) else x759.X) then x759.Y else (if (IntKind.wrap .i64 (0 - x759.X)) > x759.X then (IntKind.wrap .i64 (0 - x759.X)) else x759.X)) then (IntKind.wrap .i64 (0 - x759.Y)) else (if x759.Y > (if (IntKind.wrap .i64 (0 - x759.X)) > x759.X then (IntKind.wrap .i64 (0 - x759.X)) else x759.X) then x759.Y else (if (IntKind.wrap .i64 (0 - x759.X)) > x759.X then (IntKind.wrap .i64 (0 - x759.X)) else x759.X))) then (IntKind.wrap .i64 (x757.1.Node_Height - x758.1.Node_Height)) else (if (IntKind.wrap .i64 (0 - x759.Y)) > (if x759.Y > (if (IntKind.wrap .i64 (0 - x759.X)) > x759.X then (IntKind.wrap .i64 (0 - x759.X)) else x759.X) then x759.Y else (if (IntKind.wrap .i64 (0 - x759.X)) > x759.X then (IntKind.wrap .i64 (0 - x759.X)) else x759.X)) then (IntKind.wrap .i64 (0 - x759.Y)) else (if x759.Y > (if (IntKind.wrap .i64 (0 - x759.X)) > x759.X then (IntKind.wrap .i64 (0 - x759.X)) else x759.X) then x759.Y else (if (IntKind.wrap .i64 (0 - x759.X)) > x759.X then (IntKind.wrap .i64 (0 - x759.X)) else x759.X)))) then (IntKind.wrap .i64 (x758.1.Node_Height - x757.1.Node_Height)) else (if (IntKind.wrap .i64 (x757.1.Node_Height - x758.1.Node_Height)) > (if (IntKind.wrap .i64 (0 - x759.Y)) > (if x759.Y > (if (IntKind.wrap .i64 (0 - x759.X)) > x759.X then (IntKind.wrap .i64 (0 - x759.X)) else x759.X) then x759.Y else (if (IntKind.wrap .i64 (0 - x759.X)) > x759.X then (IntKind.wrap .i64 (0 - x759.X)) else x759.X)) then (IntKind.wrap .i64 (0 - x759.Y)) else (if x759.Y > (if (IntKind.wrap .i64 (0 - x759.X)) > x759.X then (IntKind.wrap .i64 (0 - x759.X)) else x759.X) then x759.Y else (if (IntKind.wrap .i64 (0 - x759.X)) > x759.X then (IntKind.wrap .i64 (0 - x759.X)) else x759.X))) then (IntKind.wrap .i64 (x757.1.Node_Height - x758.1.Node_Height)) else (if (IntKind.wrap .i64 (0 - x759.Y)) > (if x759.Y > (if (IntKind.wrap .i64 (0 - x759.X)) > x759.X then (IntKind.wrap .i64 (0 - x759.X)) else x759.X) then x759.Y else (if (IntKind.wrap .i64 (0 - x759.X)) > x759.X then (IntKind.wrap .i64 (0 - x759.X)) else x759.X)) then (IntKind.wrap .i64 (0 - x759.Y)) else (if x759.Y > (if (IntKind.wrap .i64 (0 - x759.X)) > x759.X then (IntKind.wrap .i64 (0 - x759.X)) else x759.X) then x759.Y else (if (IntKind.wrap .i64 (0 - x759.X)) > x759.X then (IntKind.wrap .i64 (0 - x759.X)) else x759.X))))) > (1))) then (
some (.inr (false))) else (
bif (v13 == a2) then (
bif (!(decide ((⟨x757.1.Node_Time, x757.1.Node_At_X, x757.1.Node_At_Y, x757.1.Node_Height⟩ : TNode) = (⟨x758.1.Node_Time, x758.1.Node_At_X, x758.1.Node_At_Y, x758.1.Node_Height⟩ : TNode)))) then (
some (.inr (false))) else (
some (.inl (IntKind.wrap .i64 (v13 + (1)))))) else (
some (.inl (IntKind.wrap .i64 (v13 + (1))))))))) else (
some (.inr (true)))
def g3 (n : Nat) (a0 : List TTubeNode) (a1 : TClearance) (a2 : Int) (a3 : TKind) (a4 : TP) : Option ρ3 :=
(g4 n).bind fun x746 =>
bif (!x746) then (
some (false)) else (
(g5 n ([a0] : List (List TTubeNode)) (1) (400)).bind fun x751 =>
bif (!x751) then (
some (true)) else (
(g6 n a0 a1 a2 a3 a4).bind fun x752 =>
bif (x752.2 != (0)) then (
some ((x752.1.length : Int) == (0))) else (
(g7 n x752.1).bind fun x753 =>
bif (x753 != (0)) then (
some (false)) else (
(getI x752.1 (0)).bind fun x754 =>
(getI a0 (0)).bind fun x755 =>
bif (x754.Node_Time != x755.Node_Time) then (
some (false)) else (
(getI a0 (0)).bind fun x756 =>
iterO (fun y : Int => S3_0 n a0 a2 false x752.1 y) n x756.Node_Time)))))
end Go.Proofs.YtbbfpbngnkjkdaaDoor
