/- Functions of the program as conditions on their answers; printed by wip/Gen.lean.txt. -/
import Derived.Test.YteaimbiojpjneaaGreatDoorX1T
set_option linter.unusedVariables false
set_option maxRecDepth 100000
set_option maxHeartbeats 4000000
namespace Go.Proofs.YteaimbiojpjneaaGreatDoor
/- math.sin -/
noncomputable def c130 : Code := ((Tryz.f130).body).getD .skip
noncomputable def q130 (R : AV → Mem → Prop) : AExit → St → Prop := retQ pg Tryz.f130 R
noncomputable def F130 (a0 : Nat) (R : AV → Mem → Prop) : Prop :=
fcm pg .eql 127 4 a0 0 2 fun b1 =>
bif b1 then (
retL R [] [some (AV.sc (.float .f64 a0))]) else (
callQ pg KK.gl [] 112 [(AV.sc (.float .f64 a0))] fun v2 =>
exB v2 fun b3 =>
bif b3 then (
retL R [] [some (AV.sc (.float .f64 a0))]) else (
callQ pg KK.gl [] 113 [(AV.sc (.float .f64 a0)), (intA (0))] fun v4 =>
exB v4 fun b5 =>
bif b5 then (
callQ pg KK.gl [] 115 [] fun v6 =>
exF v6 fun r7 =>
retL R [] [some (AV.sc (.float .f64 r7))]) else (
fcm pg .lss 127 4 a0 0 139 fun b9 =>
bif b9 then (
fng pg 127 a0 141 fun r11 =>
fcm pg .geq 127 4 r11 4737786807993761792 148 fun b13 =>
bif b13 then (
callQ pg KK.gl [] 135 [(AV.sc (.float .f64 r11))] fun v14 =>
exT2 v14 fun c15 c16 =>
ex_u64 c15 fun z17 =>
exF c16 fun r18 =>
bif (decide (z17 > (3))) then (
fop pg .mul 127 r18 r18 229 fun r20 =>
bif ((IntKind.wrap .u64 (z17 - (4))) == (1)) then (
fop pg .mul 127 4602678819172646912 r20 236 fun r22 =>
fop pg .sub 127 4607182418800017408 r22 237 fun r24 =>
fop pg .mul 127 r20 r20 240 fun r26 =>
fld 6 1 (gval 3) (0) fun r29 =>
fop pg .mul 127 r29 r20 244 fun r31 =>
fld 6 1 (gval 3) (1) fun r34 =>
fop pg .add 127 r31 r34 247 fun r36 =>
fop pg .mul 127 r36 r20 249 fun r38 =>
fld 6 1 (gval 3) (2) fun r41 =>
fop pg .add 127 r38 r41 252 fun r43 =>
fop pg .mul 127 r43 r20 254 fun r45 =>
fld 6 1 (gval 3) (3) fun r48 =>
fop pg .add 127 r45 r48 257 fun r50 =>
fop pg .mul 127 r50 r20 259 fun r52 =>
fld 6 1 (gval 3) (4) fun r55 =>
fop pg .add 127 r52 r55 262 fun r57 =>
fop pg .mul 127 r57 r20 264 fun r59 =>
fld 6 1 (gval 3) (5) fun r62 =>
fop pg .add 127 r59 r62 267 fun r64 =>
fop pg .mul 127 r26 r64 268 fun r66 =>
fop pg .add 127 r24 r66 269 fun r68 =>
retL R [] [some (AV.sc (.float .f64 r68))]) else (
bif ((IntKind.wrap .u64 (z17 - (4))) == (2)) then (
fop pg .mul 127 4602678819172646912 r20 238 fun r70 =>
fop pg .sub 127 4607182418800017408 r70 239 fun r72 =>
fop pg .mul 127 r20 r20 242 fun r74 =>
fld 6 1 (gval 3) (0) fun r77 =>
fop pg .mul 127 r77 r20 246 fun r79 =>
fld 6 1 (gval 3) (1) fun r82 =>
fop pg .add 127 r79 r82 249 fun r84 =>
fop pg .mul 127 r84 r20 251 fun r86 =>
fld 6 1 (gval 3) (2) fun r89 =>
fop pg .add 127 r86 r89 254 fun r91 =>
fop pg .mul 127 r91 r20 256 fun r93 =>
fld 6 1 (gval 3) (3) fun r96 =>
fop pg .add 127 r93 r96 259 fun r98 =>
fop pg .mul 127 r98 r20 261 fun r100 =>
fld 6 1 (gval 3) (4) fun r103 =>
fop pg .add 127 r100 r103 264 fun r105 =>
fop pg .mul 127 r105 r20 266 fun r107 =>
fld 6 1 (gval 3) (5) fun r110 =>
fop pg .add 127 r107 r110 269 fun r112 =>
fop pg .mul 127 r74 r112 270 fun r114 =>
fop pg .add 127 r72 r114 271 fun r116 =>
retL R [] [some (AV.sc (.float .f64 r116))]) else (
fop pg .mul 127 r18 r20 240 fun r118 =>
fld 6 1 (gval 4) (0) fun r121 =>
fop pg .mul 127 r121 r20 244 fun r123 =>
fld 6 1 (gval 4) (1) fun r126 =>
fop pg .add 127 r123 r126 247 fun r128 =>
fop pg .mul 127 r128 r20 249 fun r130 =>
fld 6 1 (gval 4) (2) fun r133 =>
fop pg .add 127 r130 r133 252 fun r135 =>
fop pg .mul 127 r135 r20 254 fun r137 =>
fld 6 1 (gval 4) (3) fun r140 =>
fop pg .add 127 r137 r140 257 fun r142 =>
fop pg .mul 127 r142 r20 259 fun r144 =>
fld 6 1 (gval 4) (4) fun r147 =>
fop pg .add 127 r144 r147 262 fun r149 =>
fop pg .mul 127 r149 r20 264 fun r151 =>
fld 6 1 (gval 4) (5) fun r154 =>
fop pg .add 127 r151 r154 267 fun r156 =>
fop pg .mul 127 r118 r156 268 fun r158 =>
fop pg .add 127 r18 r158 269 fun r160 =>
retL R [] [some (AV.sc (.float .f64 r160))]))) else (
fop pg .mul 127 r18 r18 223 fun r162 =>
bif (z17 == (1)) then (
fop pg .mul 127 4602678819172646912 r162 230 fun r164 =>
fop pg .sub 127 4607182418800017408 r164 231 fun r166 =>
fop pg .mul 127 r162 r162 234 fun r168 =>
fld 6 1 (gval 3) (0) fun r171 =>
fop pg .mul 127 r171 r162 238 fun r173 =>
fld 6 1 (gval 3) (1) fun r176 =>
fop pg .add 127 r173 r176 241 fun r178 =>
fop pg .mul 127 r178 r162 243 fun r180 =>
fld 6 1 (gval 3) (2) fun r183 =>
fop pg .add 127 r180 r183 246 fun r185 =>
fop pg .mul 127 r185 r162 248 fun r187 =>
fld 6 1 (gval 3) (3) fun r190 =>
fop pg .add 127 r187 r190 251 fun r192 =>
fop pg .mul 127 r192 r162 253 fun r194 =>
fld 6 1 (gval 3) (4) fun r197 =>
fop pg .add 127 r194 r197 256 fun r199 =>
fop pg .mul 127 r199 r162 258 fun r201 =>
fld 6 1 (gval 3) (5) fun r204 =>
fop pg .add 127 r201 r204 261 fun r206 =>
fop pg .mul 127 r168 r206 262 fun r208 =>
fop pg .add 127 r166 r208 263 fun r210 =>
fng pg 127 r210 267 fun r212 =>
retL R [] [some (AV.sc (.float .f64 r212))]) else (
bif (z17 == (2)) then (
fop pg .mul 127 4602678819172646912 r162 232 fun r214 =>
fop pg .sub 127 4607182418800017408 r214 233 fun r216 =>
fop pg .mul 127 r162 r162 236 fun r218 =>
fld 6 1 (gval 3) (0) fun r221 =>
fop pg .mul 127 r221 r162 240 fun r223 =>
fld 6 1 (gval 3) (1) fun r226 =>
fop pg .add 127 r223 r226 243 fun r228 =>
fop pg .mul 127 r228 r162 245 fun r230 =>
fld 6 1 (gval 3) (2) fun r233 =>
fop pg .add 127 r230 r233 248 fun r235 =>
fop pg .mul 127 r235 r162 250 fun r237 =>
fld 6 1 (gval 3) (3) fun r240 =>
fop pg .add 127 r237 r240 253 fun r242 =>
fop pg .mul 127 r242 r162 255 fun r244 =>
fld 6 1 (gval 3) (4) fun r247 =>
fop pg .add 127 r244 r247 258 fun r249 =>
fop pg .mul 127 r249 r162 260 fun r251 =>
fld 6 1 (gval 3) (5) fun r254 =>
fop pg .add 127 r251 r254 263 fun r256 =>
fop pg .mul 127 r218 r256 264 fun r258 =>
fop pg .add 127 r216 r258 265 fun r260 =>
fng pg 127 r260 269 fun r262 =>
retL R [] [some (AV.sc (.float .f64 r262))]) else (
fop pg .mul 127 r18 r162 234 fun r264 =>
fld 6 1 (gval 4) (0) fun r267 =>
fop pg .mul 127 r267 r162 238 fun r269 =>
fld 6 1 (gval 4) (1) fun r272 =>
fop pg .add 127 r269 r272 241 fun r274 =>
fop pg .mul 127 r274 r162 243 fun r276 =>
fld 6 1 (gval 4) (2) fun r279 =>
fop pg .add 127 r276 r279 246 fun r281 =>
fop pg .mul 127 r281 r162 248 fun r283 =>
fld 6 1 (gval 4) (3) fun r286 =>
fop pg .add 127 r283 r286 251 fun r288 =>
fop pg .mul 127 r288 r162 253 fun r290 =>
fld 6 1 (gval 4) (4) fun r293 =>
fop pg .add 127 r290 r293 256 fun r295 =>
fop pg .mul 127 r295 r162 258 fun r297 =>
fld 6 1 (gval 4) (5) fun r300 =>
fop pg .add 127 r297 r300 261 fun r302 =>
fop pg .mul 127 r264 r302 262 fun r304 =>
fop pg .add 127 r18 r304 263 fun r306 =>
fng pg 127 r306 267 fun r308 =>
retL R [] [some (AV.sc (.float .f64 r308))])))) else (
fop pg .mul 127 r11 4608412980311869571 150 fun r310 =>
opP (opA pg (.convert 127 152 (.tmp 0)) 152 [(AV.sc (.float .f64 r310))] (mget []) 151) fun v311 =>
ex_u64 v311 fun z312 =>
opP (opA pg (.convert 152 127 (.tmp 0)) 127 [(AV.sc (.int .u64 z312))] (mget []) 154) fun v313 =>
exF v313 fun r314 =>
opP (opA pg (.binOp .and 152 (.tmp 0) (.tmp 1) 152) 152 [(AV.sc (.int .u64 z312)), (AV.sc (.int .u64 (1)))] (mget []) 157) fun v315 =>
ex_u64 v315 fun z316 =>
bif (z316 == (1)) then (
fop pg .add 127 r314 4607182418800017408 163 fun r318 =>
opP (opA pg (.binOp .and 152 (.tmp 0) (.tmp 1) 152) 152 [(AV.sc (.int .u64 (IntKind.wrap .u64 (z312 + (1))))), (AV.sc (.int .u64 (7)))] (mget []) 166) fun v319 =>
ex_u64 v319 fun z320 =>
fop pg .mul 127 r318 4605249456957292544 170 fun r322 =>
fop pg .sub 127 r11 r322 171 fun r324 =>
fop pg .mul 127 r318 4495793288086814720 173 fun r326 =>
fop pg .sub 127 r324 r326 174 fun r328 =>
fop pg .mul 127 r318 4388835458085048688 176 fun r330 =>
fop pg .sub 127 r328 r330 177 fun r332 =>
bif (decide (z320 > (3))) then (
fop pg .mul 127 r332 r332 189 fun r334 =>
bif ((IntKind.wrap .u64 (z320 - (4))) == (1)) then (
fop pg .mul 127 4602678819172646912 r334 196 fun r336 =>
fop pg .sub 127 4607182418800017408 r336 197 fun r338 =>
fop pg .mul 127 r334 r334 200 fun r340 =>
fld 6 1 (gval 3) (0) fun r343 =>
fop pg .mul 127 r343 r334 204 fun r345 =>
fld 6 1 (gval 3) (1) fun r348 =>
fop pg .add 127 r345 r348 207 fun r350 =>
fop pg .mul 127 r350 r334 209 fun r352 =>
fld 6 1 (gval 3) (2) fun r355 =>
fop pg .add 127 r352 r355 212 fun r357 =>
fop pg .mul 127 r357 r334 214 fun r359 =>
fld 6 1 (gval 3) (3) fun r362 =>
fop pg .add 127 r359 r362 217 fun r364 =>
fop pg .mul 127 r364 r334 219 fun r366 =>
fld 6 1 (gval 3) (4) fun r369 =>
fop pg .add 127 r366 r369 222 fun r371 =>
fop pg .mul 127 r371 r334 224 fun r373 =>
fld 6 1 (gval 3) (5) fun r376 =>
fop pg .add 127 r373 r376 227 fun r378 =>
fop pg .mul 127 r340 r378 228 fun r380 =>
fop pg .add 127 r338 r380 229 fun r382 =>
retL R [] [some (AV.sc (.float .f64 r382))]) else (
bif ((IntKind.wrap .u64 (z320 - (4))) == (2)) then (
fop pg .mul 127 4602678819172646912 r334 198 fun r384 =>
fop pg .sub 127 4607182418800017408 r384 199 fun r386 =>
fop pg .mul 127 r334 r334 202 fun r388 =>
fld 6 1 (gval 3) (0) fun r391 =>
fop pg .mul 127 r391 r334 206 fun r393 =>
fld 6 1 (gval 3) (1) fun r396 =>
fop pg .add 127 r393 r396 209 fun r398 =>
fop pg .mul 127 r398 r334 211 fun r400 =>
fld 6 1 (gval 3) (2) fun r403 =>
fop pg .add 127 r400 r403 214 fun r405 =>
fop pg .mul 127 r405 r334 216 fun r407 =>
fld 6 1 (gval 3) (3) fun r410 =>
fop pg .add 127 r407 r410 219 fun r412 =>
fop pg .mul 127 r412 r334 221 fun r414 =>
fld 6 1 (gval 3) (4) fun r417 =>
fop pg .add 127 r414 r417 224 fun r419 =>
fop pg .mul 127 r419 r334 226 fun r421 =>
fld 6 1 (gval 3) (5) fun r424 =>
fop pg .add 127 r421 r424 229 fun r426 =>
fop pg .mul 127 r388 r426 230 fun r428 =>
fop pg .add 127 r386 r428 231 fun r430 =>
retL R [] [some (AV.sc (.float .f64 r430))]) else (
fop pg .mul 127 r332 r334 200 fun r432 =>
fld 6 1 (gval 4) (0) fun r435 =>
fop pg .mul 127 r435 r334 204 fun r437 =>
fld 6 1 (gval 4) (1) fun r440 =>
fop pg .add 127 r437 r440 207 fun r442 =>
fop pg .mul 127 r442 r334 209 fun r444 =>
fld 6 1 (gval 4) (2) fun r447 =>
fop pg .add 127 r444 r447 212 fun r449 =>
fop pg .mul 127 r449 r334 214 fun r451 =>
fld 6 1 (gval 4) (3) fun r454 =>
fop pg .add 127 r451 r454 217 fun r456 =>
fop pg .mul 127 r456 r334 219 fun r458 =>
fld 6 1 (gval 4) (4) fun r461 =>
fop pg .add 127 r458 r461 222 fun r463 =>
fop pg .mul 127 r463 r334 224 fun r465 =>
fld 6 1 (gval 4) (5) fun r468 =>
fop pg .add 127 r465 r468 227 fun r470 =>
fop pg .mul 127 r432 r470 228 fun r472 =>
fop pg .add 127 r332 r472 229 fun r474 =>
retL R [] [some (AV.sc (.float .f64 r474))]))) else (
fop pg .mul 127 r332 r332 183 fun r476 =>
bif (z320 == (1)) then (
fop pg .mul 127 4602678819172646912 r476 190 fun r478 =>
fop pg .sub 127 4607182418800017408 r478 191 fun r480 =>
fop pg .mul 127 r476 r476 194 fun r482 =>
fld 6 1 (gval 3) (0) fun r485 =>
fop pg .mul 127 r485 r476 198 fun r487 =>
fld 6 1 (gval 3) (1) fun r490 =>
fop pg .add 127 r487 r490 201 fun r492 =>
fop pg .mul 127 r492 r476 203 fun r494 =>
fld 6 1 (gval 3) (2) fun r497 =>
fop pg .add 127 r494 r497 206 fun r499 =>
fop pg .mul 127 r499 r476 208 fun r501 =>
fld 6 1 (gval 3) (3) fun r504 =>
fop pg .add 127 r501 r504 211 fun r506 =>
fop pg .mul 127 r506 r476 213 fun r508 =>
fld 6 1 (gval 3) (4) fun r511 =>
fop pg .add 127 r508 r511 216 fun r513 =>
fop pg .mul 127 r513 r476 218 fun r515 =>
fld 6 1 (gval 3) (5) fun r518 =>
fop pg .add 127 r515 r518 221 fun r520 =>
fop pg .mul 127 r482 r520 222 fun r522 =>
fop pg .add 127 r480 r522 223 fun r524 =>
fng pg 127 r524 227 fun r526 =>
retL R [] [some (AV.sc (.float .f64 r526))]) else (
bif (z320 == (2)) then (
fop pg .mul 127 4602678819172646912 r476 192 fun r528 =>
fop pg .sub 127 4607182418800017408 r528 193 fun r530 =>
fop pg .mul 127 r476 r476 196 fun r532 =>
fld 6 1 (gval 3) (0) fun r535 =>
fop pg .mul 127 r535 r476 200 fun r537 =>
fld 6 1 (gval 3) (1) fun r540 =>
fop pg .add 127 r537 r540 203 fun r542 =>
fop pg .mul 127 r542 r476 205 fun r544 =>
fld 6 1 (gval 3) (2) fun r547 =>
fop pg .add 127 r544 r547 208 fun r549 =>
fop pg .mul 127 r549 r476 210 fun r551 =>
fld 6 1 (gval 3) (3) fun r554 =>
fop pg .add 127 r551 r554 213 fun r556 =>
fop pg .mul 127 r556 r476 215 fun r558 =>
fld 6 1 (gval 3) (4) fun r561 =>
fop pg .add 127 r558 r561 218 fun r563 =>
fop pg .mul 127 r563 r476 220 fun r565 =>
fld 6 1 (gval 3) (5) fun r568 =>
fop pg .add 127 r565 r568 223 fun r570 =>
fop pg .mul 127 r532 r570 224 fun r572 =>
fop pg .add 127 r530 r572 225 fun r574 =>
fng pg 127 r574 229 fun r576 =>
retL R [] [some (AV.sc (.float .f64 r576))]) else (
fop pg .mul 127 r332 r476 194 fun r578 =>
fld 6 1 (gval 4) (0) fun r581 =>
fop pg .mul 127 r581 r476 198 fun r583 =>
fld 6 1 (gval 4) (1) fun r586 =>
fop pg .add 127 r583 r586 201 fun r588 =>
fop pg .mul 127 r588 r476 203 fun r590 =>
fld 6 1 (gval 4) (2) fun r593 =>
fop pg .add 127 r590 r593 206 fun r595 =>
fop pg .mul 127 r595 r476 208 fun r597 =>
fld 6 1 (gval 4) (3) fun r600 =>
fop pg .add 127 r597 r600 211 fun r602 =>
fop pg .mul 127 r602 r476 213 fun r604 =>
fld 6 1 (gval 4) (4) fun r607 =>
fop pg .add 127 r604 r607 216 fun r609 =>
fop pg .mul 127 r609 r476 218 fun r611 =>
fld 6 1 (gval 4) (5) fun r614 =>
fop pg .add 127 r611 r614 221 fun r616 =>
fop pg .mul 127 r578 r616 222 fun r618 =>
fop pg .add 127 r332 r618 223 fun r620 =>
fng pg 127 r620 227 fun r622 =>
retL R [] [some (AV.sc (.float .f64 r622))])))) else (
opP (opA pg (.binOp .and 152 (.tmp 0) (.tmp 1) 152) 152 [(AV.sc (.int .u64 z312)), (AV.sc (.int .u64 (7)))] (mget []) 160) fun v623 =>
ex_u64 v623 fun z624 =>
fop pg .mul 127 r314 4605249456957292544 164 fun r626 =>
fop pg .sub 127 r11 r626 165 fun r628 =>
fop pg .mul 127 r314 4495793288086814720 167 fun r630 =>
fop pg .sub 127 r628 r630 168 fun r632 =>
fop pg .mul 127 r314 4388835458085048688 170 fun r634 =>
fop pg .sub 127 r632 r634 171 fun r636 =>
bif (decide (z624 > (3))) then (
fop pg .mul 127 r636 r636 183 fun r638 =>
bif ((IntKind.wrap .u64 (z624 - (4))) == (1)) then (
fop pg .mul 127 4602678819172646912 r638 190 fun r640 =>
fop pg .sub 127 4607182418800017408 r640 191 fun r642 =>
fop pg .mul 127 r638 r638 194 fun r644 =>
fld 6 1 (gval 3) (0) fun r647 =>
fop pg .mul 127 r647 r638 198 fun r649 =>
fld 6 1 (gval 3) (1) fun r652 =>
fop pg .add 127 r649 r652 201 fun r654 =>
fop pg .mul 127 r654 r638 203 fun r656 =>
fld 6 1 (gval 3) (2) fun r659 =>
fop pg .add 127 r656 r659 206 fun r661 =>
fop pg .mul 127 r661 r638 208 fun r663 =>
fld 6 1 (gval 3) (3) fun r666 =>
fop pg .add 127 r663 r666 211 fun r668 =>
fop pg .mul 127 r668 r638 213 fun r670 =>
fld 6 1 (gval 3) (4) fun r673 =>
fop pg .add 127 r670 r673 216 fun r675 =>
fop pg .mul 127 r675 r638 218 fun r677 =>
fld 6 1 (gval 3) (5) fun r680 =>
fop pg .add 127 r677 r680 221 fun r682 =>
fop pg .mul 127 r644 r682 222 fun r684 =>
fop pg .add 127 r642 r684 223 fun r686 =>
retL R [] [some (AV.sc (.float .f64 r686))]) else (
bif ((IntKind.wrap .u64 (z624 - (4))) == (2)) then (
fop pg .mul 127 4602678819172646912 r638 192 fun r688 =>
fop pg .sub 127 4607182418800017408 r688 193 fun r690 =>
fop pg .mul 127 r638 r638 196 fun r692 =>
fld 6 1 (gval 3) (0) fun r695 =>
fop pg .mul 127 r695 r638 200 fun r697 =>
fld 6 1 (gval 3) (1) fun r700 =>
fop pg .add 127 r697 r700 203 fun r702 =>
fop pg .mul 127 r702 r638 205 fun r704 =>
fld 6 1 (gval 3) (2) fun r707 =>
fop pg .add 127 r704 r707 208 fun r709 =>
fop pg .mul 127 r709 r638 210 fun r711 =>
fld 6 1 (gval 3) (3) fun r714 =>
fop pg .add 127 r711 r714 213 fun r716 =>
fop pg .mul 127 r716 r638 215 fun r718 =>
fld 6 1 (gval 3) (4) fun r721 =>
fop pg .add 127 r718 r721 218 fun r723 =>
fop pg .mul 127 r723 r638 220 fun r725 =>
fld 6 1 (gval 3) (5) fun r728 =>
fop pg .add 127 r725 r728 223 fun r730 =>
fop pg .mul 127 r692 r730 224 fun r732 =>
fop pg .add 127 r690 r732 225 fun r734 =>
retL R [] [some (AV.sc (.float .f64 r734))]) else (
fop pg .mul 127 r636 r638 194 fun r736 =>
fld 6 1 (gval 4) (0) fun r739 =>
fop pg .mul 127 r739 r638 198 fun r741 =>
fld 6 1 (gval 4) (1) fun r744 =>
fop pg .add 127 r741 r744 201 fun r746 =>
fop pg .mul 127 r746 r638 203 fun r748 =>
fld 6 1 (gval 4) (2) fun r751 =>
fop pg .add 127 r748 r751 206 fun r753 =>
fop pg .mul 127 r753 r638 208 fun r755 =>
fld 6 1 (gval 4) (3) fun r758 =>
fop pg .add 127 r755 r758 211 fun r760 =>
fop pg .mul 127 r760 r638 213 fun r762 =>
fld 6 1 (gval 4) (4) fun r765 =>
fop pg .add 127 r762 r765 216 fun r767 =>
fop pg .mul 127 r767 r638 218 fun r769 =>
fld 6 1 (gval 4) (5) fun r772 =>
fop pg .add 127 r769 r772 221 fun r774 =>
fop pg .mul 127 r736 r774 222 fun r776 =>
fop pg .add 127 r636 r776 223 fun r778 =>
retL R [] [some (AV.sc (.float .f64 r778))]))) else (
fop pg .mul 127 r636 r636 177 fun r780 =>
bif (z624 == (1)) then (
fop pg .mul 127 4602678819172646912 r780 184 fun r782 =>
fop pg .sub 127 4607182418800017408 r782 185 fun r784 =>
fop pg .mul 127 r780 r780 188 fun r786 =>
fld 6 1 (gval 3) (0) fun r789 =>
fop pg .mul 127 r789 r780 192 fun r791 =>
fld 6 1 (gval 3) (1) fun r794 =>
fop pg .add 127 r791 r794 195 fun r796 =>
fop pg .mul 127 r796 r780 197 fun r798 =>
fld 6 1 (gval 3) (2) fun r801 =>
fop pg .add 127 r798 r801 200 fun r803 =>
fop pg .mul 127 r803 r780 202 fun r805 =>
fld 6 1 (gval 3) (3) fun r808 =>
fop pg .add 127 r805 r808 205 fun r810 =>
fop pg .mul 127 r810 r780 207 fun r812 =>
fld 6 1 (gval 3) (4) fun r815 =>
fop pg .add 127 r812 r815 210 fun r817 =>
fop pg .mul 127 r817 r780 212 fun r819 =>
fld 6 1 (gval 3) (5) fun r822 =>
fop pg .add 127 r819 r822 215 fun r824 =>
fop pg .mul 127 r786 r824 216 fun r826 =>
fop pg .add 127 r784 r826 217 fun r828 =>
fng pg 127 r828 221 fun r830 =>
retL R [] [some (AV.sc (.float .f64 r830))]) else (
bif (z624 == (2)) then (
fop pg .mul 127 4602678819172646912 r780 186 fun r832 =>
fop pg .sub 127 4607182418800017408 r832 187 fun r834 =>
fop pg .mul 127 r780 r780 190 fun r836 =>
fld 6 1 (gval 3) (0) fun r839 =>
fop pg .mul 127 r839 r780 194 fun r841 =>
fld 6 1 (gval 3) (1) fun r844 =>
fop pg .add 127 r841 r844 197 fun r846 =>
fop pg .mul 127 r846 r780 199 fun r848 =>
fld 6 1 (gval 3) (2) fun r851 =>
fop pg .add 127 r848 r851 202 fun r853 =>
fop pg .mul 127 r853 r780 204 fun r855 =>
fld 6 1 (gval 3) (3) fun r858 =>
fop pg .add 127 r855 r858 207 fun r860 =>
fop pg .mul 127 r860 r780 209 fun r862 =>
fld 6 1 (gval 3) (4) fun r865 =>
fop pg .add 127 r862 r865 212 fun r867 =>
fop pg .mul 127 r867 r780 214 fun r869 =>
fld 6 1 (gval 3) (5) fun r872 =>
fop pg .add 127 r869 r872 217 fun r874 =>
fop pg .mul 127 r836 r874 218 fun r876 =>
fop pg .add 127 r834 r876 219 fun r878 =>
fng pg 127 r878 223 fun r880 =>
retL R [] [some (AV.sc (.float .f64 r880))]) else (
fop pg .mul 127 r636 r780 188 fun r882 =>
fld 6 1 (gval 4) (0) fun r885 =>
fop pg .mul 127 r885 r780 192 fun r887 =>
fld 6 1 (gval 4) (1) fun r890 =>
fop pg .add 127 r887 r890 195 fun r892 =>
fop pg .mul 127 r892 r780 197 fun r894 =>
fld 6 1 (gval 4) (2) fun r897 =>
fop pg .add 127 r894 r897 200 fun r899 =>
fop pg .mul 127 r899 r780 202 fun r901 =>
fld 6 1 (gval 4) (3) fun r904 =>
fop pg .add 127 r901 r904 205 fun r906 =>
fop pg .mul 127 r906 r780 207 fun r908 =>
fld 6 1 (gval 4) (4) fun r911 =>
fop pg .add 127 r908 r911 210 fun r913 =>
fop pg .mul 127 r913 r780 212 fun r915 =>
fld 6 1 (gval 4) (5) fun r918 =>
fop pg .add 127 r915 r918 215 fun r920 =>
fop pg .mul 127 r882 r920 216 fun r922 =>
fop pg .add 127 r636 r922 217 fun r924 =>
fng pg 127 r924 221 fun r926 =>
retL R [] [some (AV.sc (.float .f64 r926))])))))) else (
fcm pg .geq 127 4 a0 4737786807993761792 144 fun b928 =>
bif b928 then (
callQ pg KK.gl [] 135 [(AV.sc (.float .f64 a0))] fun v929 =>
exT2 v929 fun c930 c931 =>
ex_u64 c930 fun z932 =>
exF c931 fun r933 =>
bif (decide (z932 > (3))) then (
fop pg .mul 127 r933 r933 225 fun r935 =>
bif ((IntKind.wrap .u64 (z932 - (4))) == (1)) then (
fop pg .mul 127 4602678819172646912 r935 232 fun r937 =>
fop pg .sub 127 4607182418800017408 r937 233 fun r939 =>
fop pg .mul 127 r935 r935 236 fun r941 =>
fld 6 1 (gval 3) (0) fun r944 =>
fop pg .mul 127 r944 r935 240 fun r946 =>
fld 6 1 (gval 3) (1) fun r949 =>
fop pg .add 127 r946 r949 243 fun r951 =>
fop pg .mul 127 r951 r935 245 fun r953 =>
fld 6 1 (gval 3) (2) fun r956 =>
fop pg .add 127 r953 r956 248 fun r958 =>
fop pg .mul 127 r958 r935 250 fun r960 =>
fld 6 1 (gval 3) (3) fun r963 =>
fop pg .add 127 r960 r963 253 fun r965 =>
fop pg .mul 127 r965 r935 255 fun r967 =>
fld 6 1 (gval 3) (4) fun r970 =>
fop pg .add 127 r967 r970 258 fun r972 =>
fop pg .mul 127 r972 r935 260 fun r974 =>
fld 6 1 (gval 3) (5) fun r977 =>
fop pg .add 127 r974 r977 263 fun r979 =>
fop pg .mul 127 r941 r979 264 fun r981 =>
fop pg .add 127 r939 r981 265 fun r983 =>
fng pg 127 r983 269 fun r985 =>
retL R [] [some (AV.sc (.float .f64 r985))]) else (
bif ((IntKind.wrap .u64 (z932 - (4))) == (2)) then (
fop pg .mul 127 4602678819172646912 r935 234 fun r987 =>
fop pg .sub 127 4607182418800017408 r987 235 fun r989 =>
fop pg .mul 127 r935 r935 238 fun r991 =>
fld 6 1 (gval 3) (0) fun r994 =>
fop pg .mul 127 r994 r935 242 fun r996 =>
fld 6 1 (gval 3) (1) fun r999 =>
fop pg .add 127 r996 r999 245 fun r1001 =>
fop pg .mul 127 r1001 r935 247 fun r1003 =>
fld 6 1 (gval 3) (2) fun r1006 =>
fop pg .add 127 r1003 r1006 250 fun r1008 =>
fop pg .mul 127 r1008 r935 252 fun r1010 =>
fld 6 1 (gval 3) (3) fun r1013 =>
fop pg .add 127 r1010 r1013 255 fun r1015 =>
fop pg .mul 127 r1015 r935 257 fun r1017 =>
fld 6 1 (gval 3) (4) fun r1020 =>
fop pg .add 127 r1017 r1020 260 fun r1022 =>
fop pg .mul 127 r1022 r935 262 fun r1024 =>
fld 6 1 (gval 3) (5) fun r1027 =>
fop pg .add 127 r1024 r1027 265 fun r1029 =>
fop pg .mul 127 r991 r1029 266 fun r1031 =>
fop pg .add 127 r989 r1031 267 fun r1033 =>
fng pg 127 r1033 271 fun r1035 =>
retL R [] [some (AV.sc (.float .f64 r1035))]) else (
fop pg .mul 127 r933 r935 236 fun r1037 =>
fld 6 1 (gval 4) (0) fun r1040 =>
fop pg .mul 127 r1040 r935 240 fun r1042 =>
fld 6 1 (gval 4) (1) fun r1045 =>
fop pg .add 127 r1042 r1045 243 fun r1047 =>
fop pg .mul 127 r1047 r935 245 fun r1049 =>
fld 6 1 (gval 4) (2) fun r1052 =>
fop pg .add 127 r1049 r1052 248 fun r1054 =>
fop pg .mul 127 r1054 r935 250 fun r1056 =>
fld 6 1 (gval 4) (3) fun r1059 =>
fop pg .add 127 r1056 r1059 253 fun r1061 =>
fop pg .mul 127 r1061 r935 255 fun r1063 =>
fld 6 1 (gval 4) (4) fun r1066 =>
fop pg .add 127 r1063 r1066 258 fun r1068 =>
fop pg .mul 127 r1068 r935 260 fun r1070 =>
fld 6 1 (gval 4) (5) fun r1073 =>
fop pg .add 127 r1070 r1073 263 fun r1075 =>
fop pg .mul 127 r1037 r1075 264 fun r1077 =>
fop pg .add 127 r933 r1077 265 fun r1079 =>
fng pg 127 r1079 269 fun r1081 =>
retL R [] [some (AV.sc (.float .f64 r1081))]))) else (
fop pg .mul 127 r933 r933 219 fun r1083 =>
bif (z932 == (1)) then (
fop pg .mul 127 4602678819172646912 r1083 226 fun r1085 =>
fop pg .sub 127 4607182418800017408 r1085 227 fun r1087 =>
fop pg .mul 127 r1083 r1083 230 fun r1089 =>
fld 6 1 (gval 3) (0) fun r1092 =>
fop pg .mul 127 r1092 r1083 234 fun r1094 =>
fld 6 1 (gval 3) (1) fun r1097 =>
fop pg .add 127 r1094 r1097 237 fun r1099 =>
fop pg .mul 127 r1099 r1083 239 fun r1101 =>
fld 6 1 (gval 3) (2) fun r1104 =>
fop pg .add 127 r1101 r1104 242 fun r1106 =>
fop pg .mul 127 r1106 r1083 244 fun r1108 =>
fld 6 1 (gval 3) (3) fun r1111 =>
fop pg .add 127 r1108 r1111 247 fun r1113 =>
fop pg .mul 127 r1113 r1083 249 fun r1115 =>
fld 6 1 (gval 3) (4) fun r1118 =>
fop pg .add 127 r1115 r1118 252 fun r1120 =>
fop pg .mul 127 r1120 r1083 254 fun r1122 =>
fld 6 1 (gval 3) (5) fun r1125 =>
fop pg .add 127 r1122 r1125 257 fun r1127 =>
fop pg .mul 127 r1089 r1127 258 fun r1129 =>
fop pg .add 127 r1087 r1129 259 fun r1131 =>
retL R [] [some (AV.sc (.float .f64 r1131))]) else (
bif (z932 == (2)) then (
fop pg .mul 127 4602678819172646912 r1083 228 fun r1133 =>
fop pg .sub 127 4607182418800017408 r1133 229 fun r1135 =>
fop pg .mul 127 r1083 r1083 232 fun r1137 =>
fld 6 1 (gval 3) (0) fun r1140 =>
fop pg .mul 127 r1140 r1083 236 fun r1142 =>
fld 6 1 (gval 3) (1) fun r1145 =>
fop pg .add 127 r1142 r1145 239 fun r1147 =>
fop pg .mul 127 r1147 r1083 241 fun r1149 =>
fld 6 1 (gval 3) (2) fun r1152 =>
fop pg .add 127 r1149 r1152 244 fun r1154 =>
fop pg .mul 127 r1154 r1083 246 fun r1156 =>
fld 6 1 (gval 3) (3) fun r1159 =>
fop pg .add 127 r1156 r1159 249 fun r1161 =>
fop pg .mul 127 r1161 r1083 251 fun r1163 =>
fld 6 1 (gval 3) (4) fun r1166 =>
fop pg .add 127 r1163 r1166 254 fun r1168 =>
fop pg .mul 127 r1168 r1083 256 fun r1170 =>
fld 6 1 (gval 3) (5) fun r1173 =>
fop pg .add 127 r1170 r1173 259 fun r1175 =>
fop pg .mul 127 r1137 r1175 260 fun r1177 =>
fop pg .add 127 r1135 r1177 261 fun r1179 =>
retL R [] [some (AV.sc (.float .f64 r1179))]) else (
fop pg .mul 127 r933 r1083 230 fun r1181 =>
fld 6 1 (gval 4) (0) fun r1184 =>
fop pg .mul 127 r1184 r1083 234 fun r1186 =>
fld 6 1 (gval 4) (1) fun r1189 =>
fop pg .add 127 r1186 r1189 237 fun r1191 =>
fop pg .mul 127 r1191 r1083 239 fun r1193 =>
fld 6 1 (gval 4) (2) fun r1196 =>
fop pg .add 127 r1193 r1196 242 fun r1198 =>
fop pg .mul 127 r1198 r1083 244 fun r1200 =>
fld 6 1 (gval 4) (3) fun r1203 =>
fop pg .add 127 r1200 r1203 247 fun r1205 =>
fop pg .mul 127 r1205 r1083 249 fun r1207 =>
fld 6 1 (gval 4) (4) fun r1210 =>
fop pg .add 127 r1207 r1210 252 fun r1212 =>
fop pg .mul 127 r1212 r1083 254 fun r1214 =>
fld 6 1 (gval 4) (5) fun r1217 =>
fop pg .add 127 r1214 r1217 257 fun r1219 =>
fop pg .mul 127 r1181 r1219 258 fun r1221 =>
fop pg .add 127 r933 r1221 259 fun r1223 =>
retL R [] [some (AV.sc (.float .f64 r1223))])))) else (
fop pg .mul 127 a0 4608412980311869571 146 fun r1225 =>
opP (opA pg (.convert 127 152 (.tmp 0)) 152 [(AV.sc (.float .f64 r1225))] (mget []) 147) fun v1226 =>
ex_u64 v1226 fun z1227 =>
opP (opA pg (.convert 152 127 (.tmp 0)) 127 [(AV.sc (.int .u64 z1227))] (mget []) 150) fun v1228 =>
exF v1228 fun r1229 =>
opP (opA pg (.binOp .and 152 (.tmp 0) (.tmp 1) 152) 152 [(AV.sc (.int .u64 z1227)), (AV.sc (.int .u64 (1)))] (mget []) 153) fun v1230 =>
ex_u64 v1230 fun z1231 =>
bif (z1231 == (1)) then (
fop pg .add 127 r1229 4607182418800017408 159 fun r1233 =>
opP (opA pg (.binOp .and 152 (.tmp 0) (.tmp 1) 152) 152 [(AV.sc (.int .u64 (IntKind.wrap .u64 (z1227 + (1))))), (AV.sc (.int .u64 (7)))] (mget []) 162) fun v1234 =>
ex_u64 v1234 fun z1235 =>
fop pg .mul 127 r1233 4605249456957292544 166 fun r1237 =>
fop pg .sub 127 a0 r1237 167 fun r1239 =>
fop pg .mul 127 r1233 4495793288086814720 169 fun r1241 =>
fop pg .sub 127 r1239 r1241 170 fun r1243 =>
fop pg .mul 127 r1233 4388835458085048688 172 fun r1245 =>
fop pg .sub 127 r1243 r1245 173 fun r1247 =>
bif (decide (z1235 > (3))) then (
fop pg .mul 127 r1247 r1247 185 fun r1249 =>
bif ((IntKind.wrap .u64 (z1235 - (4))) == (1)) then (
fop pg .mul 127 4602678819172646912 r1249 192 fun r1251 =>
fop pg .sub 127 4607182418800017408 r1251 193 fun r1253 =>
fop pg .mul 127 r1249 r1249 196 fun r1255 =>
fld 6 1 (gval 3) (0) fun r1258 =>
fop pg .mul 127 r1258 r1249 200 fun r1260 =>
fld 6 1 (gval 3) (1) fun r1263 =>
fop pg .add 127 r1260 r1263 203 fun r1265 =>
fop pg .mul 127 r1265 r1249 205 fun r1267 =>
fld 6 1 (gval 3) (2) fun r1270 =>
fop pg .add 127 r1267 r1270 208 fun r1272 =>
fop pg .mul 127 r1272 r1249 210 fun r1274 =>
fld 6 1 (gval 3) (3) fun r1277 =>
fop pg .add 127 r1274 r1277 213 fun r1279 =>
fop pg .mul 127 r1279 r1249 215 fun r1281 =>
fld 6 1 (gval 3) (4) fun r1284 =>
fop pg .add 127 r1281 r1284 218 fun r1286 =>
fop pg .mul 127 r1286 r1249 220 fun r1288 =>
fld 6 1 (gval 3) (5) fun r1291 =>
fop pg .add 127 r1288 r1291 223 fun r1293 =>
fop pg .mul 127 r1255 r1293 224 fun r1295 =>
fop pg .add 127 r1253 r1295 225 fun r1297 =>
fng pg 127 r1297 229 fun r1299 =>
retL R [] [some (AV.sc (.float .f64 r1299))]) else (
bif ((IntKind.wrap .u64 (z1235 - (4))) == (2)) then (
fop pg .mul 127 4602678819172646912 r1249 194 fun r1301 =>
fop pg .sub 127 4607182418800017408 r1301 195 fun r1303 =>
fop pg .mul 127 r1249 r1249 198 fun r1305 =>
fld 6 1 (gval 3) (0) fun r1308 =>
fop pg .mul 127 r1308 r1249 202 fun r1310 =>
fld 6 1 (gval 3) (1) fun r1313 =>
fop pg .add 127 r1310 r1313 205 fun r1315 =>
fop pg .mul 127 r1315 r1249 207 fun r1317 =>
fld 6 1 (gval 3) (2) fun r1320 =>
fop pg .add 127 r1317 r1320 210 fun r1322 =>
fop pg .mul 127 r1322 r1249 212 fun r1324 =>
fld 6 1 (gval 3) (3) fun r1327 =>
fop pg .add 127 r1324 r1327 215 fun r1329 =>
fop pg .mul 127 r1329 r1249 217 fun r1331 =>
fld 6 1 (gval 3) (4) fun r1334 =>
fop pg .add 127 r1331 r1334 220 fun r1336 =>
fop pg .mul 127 r1336 r1249 222 fun r1338 =>
fld 6 1 (gval 3) (5) fun r1341 =>
fop pg .add 127 r1338 r1341 225 fun r1343 =>
fop pg .mul 127 r1305 r1343 226 fun r1345 =>
fop pg .add 127 r1303 r1345 227 fun r1347 =>
fng pg 127 r1347 231 fun r1349 =>
retL R [] [some (AV.sc (.float .f64 r1349))]) else (
fop pg .mul 127 r1247 r1249 196 fun r1351 =>
fld 6 1 (gval 4) (0) fun r1354 =>
fop pg .mul 127 r1354 r1249 200 fun r1356 =>
fld 6 1 (gval 4) (1) fun r1359 =>
fop pg .add 127 r1356 r1359 203 fun r1361 =>
fop pg .mul 127 r1361 r1249 205 fun r1363 =>
fld 6 1 (gval 4) (2) fun r1366 =>
fop pg .add 127 r1363 r1366 208 fun r1368 =>
fop pg .mul 127 r1368 r1249 210 fun r1370 =>
fld 6 1 (gval 4) (3) fun r1373 =>
fop pg .add 127 r1370 r1373 213 fun r1375 =>
fop pg .mul 127 r1375 r1249 215 fun r1377 =>
fld 6 1 (gval 4) (4) fun r1380 =>
fop pg .add 127 r1377 r1380 218 fun r1382 =>
fop pg .mul 127 r1382 r1249 220 fun r1384 =>
fld 6 1 (gval 4) (5) fun r1387 =>
fop pg .add 127 r1384 r1387 223 fun r1389 =>
fop pg .mul 127 r1351 r1389 224 fun r1391 =>
fop pg .add 127 r1247 r1391 225 fun r1393 =>
fng pg 127 r1393 229 fun r1395 =>
retL R [] [some (AV.sc (.float .f64 r1395))]))) else (
fop pg .mul 127 r1247 r1247 179 fun r1397 =>
bif (z1235 == (1)) then (
fop pg .mul 127 4602678819172646912 r1397 186 fun r1399 =>
fop pg .sub 127 4607182418800017408 r1399 187 fun r1401 =>
fop pg .mul 127 r1397 r1397 190 fun r1403 =>
fld 6 1 (gval 3) (0) fun r1406 =>
fop pg .mul 127 r1406 r1397 194 fun r1408 =>
fld 6 1 (gval 3) (1) fun r1411 =>
fop pg .add 127 r1408 r1411 197 fun r1413 =>
fop pg .mul 127 r1413 r1397 199 fun r1415 =>
fld 6 1 (gval 3) (2) fun r1418 =>
fop pg .add 127 r1415 r1418 202 fun r1420 =>
fop pg .mul 127 r1420 r1397 204 fun r1422 =>
fld 6 1 (gval 3) (3) fun r1425 =>
fop pg .add 127 r1422 r1425 207 fun r1427 =>
fop pg .mul 127 r1427 r1397 209 fun r1429 =>
fld 6 1 (gval 3) (4) fun r1432 =>
fop pg .add 127 r1429 r1432 212 fun r1434 =>
fop pg .mul 127 r1434 r1397 214 fun r1436 =>
fld 6 1 (gval 3) (5) fun r1439 =>
fop pg .add 127 r1436 r1439 217 fun r1441 =>
fop pg .mul 127 r1403 r1441 218 fun r1443 =>
fop pg .add 127 r1401 r1443 219 fun r1445 =>
retL R [] [some (AV.sc (.float .f64 r1445))]) else (
bif (z1235 == (2)) then (
fop pg .mul 127 4602678819172646912 r1397 188 fun r1447 =>
fop pg .sub 127 4607182418800017408 r1447 189 fun r1449 =>
fop pg .mul 127 r1397 r1397 192 fun r1451 =>
fld 6 1 (gval 3) (0) fun r1454 =>
fop pg .mul 127 r1454 r1397 196 fun r1456 =>
fld 6 1 (gval 3) (1) fun r1459 =>
fop pg .add 127 r1456 r1459 199 fun r1461 =>
fop pg .mul 127 r1461 r1397 201 fun r1463 =>
fld 6 1 (gval 3) (2) fun r1466 =>
fop pg .add 127 r1463 r1466 204 fun r1468 =>
fop pg .mul 127 r1468 r1397 206 fun r1470 =>
fld 6 1 (gval 3) (3) fun r1473 =>
fop pg .add 127 r1470 r1473 209 fun r1475 =>
fop pg .mul 127 r1475 r1397 211 fun r1477 =>
fld 6 1 (gval 3) (4) fun r1480 =>
fop pg .add 127 r1477 r1480 214 fun r1482 =>
fop pg .mul 127 r1482 r1397 216 fun r1484 =>
fld 6 1 (gval 3) (5) fun r1487 =>
fop pg .add 127 r1484 r1487 219 fun r1489 =>
fop pg .mul 127 r1451 r1489 220 fun r1491 =>
fop pg .add 127 r1449 r1491 221 fun r1493 =>
retL R [] [some (AV.sc (.float .f64 r1493))]) else (
fop pg .mul 127 r1247 r1397 190 fun r1495 =>
fld 6 1 (gval 4) (0) fun r1498 =>
fop pg .mul 127 r1498 r1397 194 fun r1500 =>
fld 6 1 (gval 4) (1) fun r1503 =>
fop pg .add 127 r1500 r1503 197 fun r1505 =>
fop pg .mul 127 r1505 r1397 199 fun r1507 =>
fld 6 1 (gval 4) (2) fun r1510 =>
fop pg .add 127 r1507 r1510 202 fun r1512 =>
fop pg .mul 127 r1512 r1397 204 fun r1514 =>
fld 6 1 (gval 4) (3) fun r1517 =>
fop pg .add 127 r1514 r1517 207 fun r1519 =>
fop pg .mul 127 r1519 r1397 209 fun r1521 =>
fld 6 1 (gval 4) (4) fun r1524 =>
fop pg .add 127 r1521 r1524 212 fun r1526 =>
fop pg .mul 127 r1526 r1397 214 fun r1528 =>
fld 6 1 (gval 4) (5) fun r1531 =>
fop pg .add 127 r1528 r1531 217 fun r1533 =>
fop pg .mul 127 r1495 r1533 218 fun r1535 =>
fop pg .add 127 r1247 r1535 219 fun r1537 =>
retL R [] [some (AV.sc (.float .f64 r1537))])))) else (
opP (opA pg (.binOp .and 152 (.tmp 0) (.tmp 1) 152) 152 [(AV.sc (.int .u64 z1227)), (AV.sc (.int .u64 (7)))] (mget []) 156) fun v1538 =>
ex_u64 v1538 fun z1539 =>
fop pg .mul 127 r1229 4605249456957292544 160 fun r1541 =>
fop pg .sub 127 a0 r1541 161 fun r1543 =>
fop pg .mul 127 r1229 4495793288086814720 163 fun r1545 =>
fop pg .sub 127 r1543 r1545 164 fun r1547 =>
fop pg .mul 127 r1229 4388835458085048688 166 fun r1549 =>
fop pg .sub 127 r1547 r1549 167 fun r1551 =>
bif (decide (z1539 > (3))) then (
fop pg .mul 127 r1551 r1551 179 fun r1553 =>
bif ((IntKind.wrap .u64 (z1539 - (4))) == (1)) then (
fop pg .mul 127 4602678819172646912 r1553 186 fun r1555 =>
fop pg .sub 127 4607182418800017408 r1555 187 fun r1557 =>
fop pg .mul 127 r1553 r1553 190 fun r1559 =>
fld 6 1 (gval 3) (0) fun r1562 =>
fop pg .mul 127 r1562 r1553 194 fun r1564 =>
fld 6 1 (gval 3) (1) fun r1567 =>
fop pg .add 127 r1564 r1567 197 fun r1569 =>
fop pg .mul 127 r1569 r1553 199 fun r1571 =>
fld 6 1 (gval 3) (2) fun r1574 =>
fop pg .add 127 r1571 r1574 202 fun r1576 =>
fop pg .mul 127 r1576 r1553 204 fun r1578 =>
fld 6 1 (gval 3) (3) fun r1581 =>
fop pg .add 127 r1578 r1581 207 fun r1583 =>
fop pg .mul 127 r1583 r1553 209 fun r1585 =>
fld 6 1 (gval 3) (4) fun r1588 =>
fop pg .add 127 r1585 r1588 212 fun r1590 =>
fop pg .mul 127 r1590 r1553 214 fun r1592 =>
fld 6 1 (gval 3) (5) fun r1595 =>
fop pg .add 127 r1592 r1595 217 fun r1597 =>
fop pg .mul 127 r1559 r1597 218 fun r1599 =>
fop pg .add 127 r1557 r1599 219 fun r1601 =>
fng pg 127 r1601 223 fun r1603 =>
retL R [] [some (AV.sc (.float .f64 r1603))]) else (
bif ((IntKind.wrap .u64 (z1539 - (4))) == (2)) then (
fop pg .mul 127 4602678819172646912 r1553 188 fun r1605 =>
fop pg .sub 127 4607182418800017408 r1605 189 fun r1607 =>
fop pg .mul 127 r1553 r1553 192 fun r1609 =>
fld 6 1 (gval 3) (0) fun r1612 =>
fop pg .mul 127 r1612 r1553 196 fun r1614 =>
fld 6 1 (gval 3) (1) fun r1617 =>
fop pg .add 127 r1614 r1617 199 fun r1619 =>
fop pg .mul 127 r1619 r1553 201 fun r1621 =>
fld 6 1 (gval 3) (2) fun r1624 =>
fop pg .add 127 r1621 r1624 204 fun r1626 =>
fop pg .mul 127 r1626 r1553 206 fun r1628 =>
fld 6 1 (gval 3) (3) fun r1631 =>
fop pg .add 127 r1628 r1631 209 fun r1633 =>
fop pg .mul 127 r1633 r1553 211 fun r1635 =>
fld 6 1 (gval 3) (4) fun r1638 =>
fop pg .add 127 r1635 r1638 214 fun r1640 =>
fop pg .mul 127 r1640 r1553 216 fun r1642 =>
fld 6 1 (gval 3) (5) fun r1645 =>
fop pg .add 127 r1642 r1645 219 fun r1647 =>
fop pg .mul 127 r1609 r1647 220 fun r1649 =>
fop pg .add 127 r1607 r1649 221 fun r1651 =>
fng pg 127 r1651 225 fun r1653 =>
retL R [] [some (AV.sc (.float .f64 r1653))]) else (
fop pg .mul 127 r1551 r1553 190 fun r1655 =>
fld 6 1 (gval 4) (0) fun r1658 =>
fop pg .mul 127 r1658 r1553 194 fun r1660 =>
fld 6 1 (gval 4) (1) fun r1663 =>
fop pg .add 127 r1660 r1663 197 fun r1665 =>
fop pg .mul 127 r1665 r1553 199 fun r1667 =>
fld 6 1 (gval 4) (2) fun r1670 =>
fop pg .add 127 r1667 r1670 202 fun r1672 =>
fop pg .mul 127 r1672 r1553 204 fun r1674 =>
fld 6 1 (gval 4) (3) fun r1677 =>
fop pg .add 127 r1674 r1677 207 fun r1679 =>
fop pg .mul 127 r1679 r1553 209 fun r1681 =>
fld 6 1 (gval 4) (4) fun r1684 =>
fop pg .add 127 r1681 r1684 212 fun r1686 =>
fop pg .mul 127 r1686 r1553 214 fun r1688 =>
fld 6 1 (gval 4) (5) fun r1691 =>
fop pg .add 127 r1688 r1691 217 fun r1693 =>
fop pg .mul 127 r1655 r1693 218 fun r1695 =>
fop pg .add 127 r1551 r1695 219 fun r1697 =>
fng pg 127 r1697 223 fun r1699 =>
retL R [] [some (AV.sc (.float .f64 r1699))]))) else (
fop pg .mul 127 r1551 r1551 173 fun r1701 =>
bif (z1539 == (1)) then (
fop pg .mul 127 4602678819172646912 r1701 180 fun r1703 =>
fop pg .sub 127 4607182418800017408 r1703 181 fun r1705 =>
fop pg .mul 127 r1701 r1701 184 fun r1707 =>
fld 6 1 (gval 3) (0) fun r1710 =>
fop pg .mul 127 r1710 r1701 188 fun r1712 =>
fld 6 1 (gval 3) (1) fun r1715 =>
fop pg .add 127 r1712 r1715 191 fun r1717 =>
fop pg .mul 127 r1717 r1701 193 fun r1719 =>
fld 6 1 (gval 3) (2) fun r1722 =>
fop pg .add 127 r1719 r1722 196 fun r1724 =>
fop pg .mul 127 r1724 r1701 198 fun r1726 =>
fld 6 1 (gval 3) (3) fun r1729 =>
fop pg .add 127 r1726 r1729 201 fun r1731 =>
fop pg .mul 127 r1731 r1701 203 fun r1733 =>
fld 6 1 (gval 3) (4) fun r1736 =>
fop pg .add 127 r1733 r1736 206 fun r1738 =>
fop pg .mul 127 r1738 r1701 208 fun r1740 =>
fld 6 1 (gval 3) (5) fun r1743 =>
fop pg .add 127 r1740 r1743 211 fun r1745 =>
fop pg .mul 127 r1707 r1745 212 fun r1747 =>
fop pg .add 127 r1705 r1747 213 fun r1749 =>
retL R [] [some (AV.sc (.float .f64 r1749))]) else (
bif (z1539 == (2)) then (
fop pg .mul 127 4602678819172646912 r1701 182 fun r1751 =>
fop pg .sub 127 4607182418800017408 r1751 183 fun r1753 =>
fop pg .mul 127 r1701 r1701 186 fun r1755 =>
fld 6 1 (gval 3) (0) fun r1758 =>
fop pg .mul 127 r1758 r1701 190 fun r1760 =>
fld 6 1 (gval 3) (1) fun r1763 =>
fop pg .add 127 r1760 r1763 193 fun r1765 =>
fop pg .mul 127 r1765 r1701 195 fun r1767 =>
fld 6 1 (gval 3) (2) fun r1770 =>
fop pg .add 127 r1767 r1770 198 fun r1772 =>
fop pg .mul 127 r1772 r1701 200 fun r1774 =>
fld 6 1 (gval 3) (3) fun r1777 =>
fop pg .add 127 r1774 r1777 203 fun r1779 =>
fop pg .mul 127 r1779 r1701 205 fun r1781 =>
fld 6 1 (gval 3) (4) fun r1784 =>
fop pg .add 127 r1781 r1784 208 fun r1786 =>
fop pg .mul 127 r1786 r1701 210 fun r1788 =>
fld 6 1 (gval 3) (5) fun r1791 =>
fop pg .add 127 r1788 r1791 213 fun r1793 =>
fop pg .mul 127 r1755 r1793 214 fun r1795 =>
fop pg .add 127 r1753 r1795 215 fun r1797 =>
retL R [] [some (AV.sc (.float .f64 r1797))]) else (
fop pg .mul 127 r1551 r1701 184 fun r1799 =>
fld 6 1 (gval 4) (0) fun r1802 =>
fop pg .mul 127 r1802 r1701 188 fun r1804 =>
fld 6 1 (gval 4) (1) fun r1807 =>
fop pg .add 127 r1804 r1807 191 fun r1809 =>
fop pg .mul 127 r1809 r1701 193 fun r1811 =>
fld 6 1 (gval 4) (2) fun r1814 =>
fop pg .add 127 r1811 r1814 196 fun r1816 =>
fop pg .mul 127 r1816 r1701 198 fun r1818 =>
fld 6 1 (gval 4) (3) fun r1821 =>
fop pg .add 127 r1818 r1821 201 fun r1823 =>
fop pg .mul 127 r1823 r1701 203 fun r1825 =>
fld 6 1 (gval 4) (4) fun r1828 =>
fop pg .add 127 r1825 r1828 206 fun r1830 =>
fop pg .mul 127 r1830 r1701 208 fun r1832 =>
fld 6 1 (gval 4) (5) fun r1835 =>
fop pg .add 127 r1832 r1835 211 fun r1837 =>
fop pg .mul 127 r1799 r1837 212 fun r1839 =>
fop pg .add 127 r1551 r1839 213 fun r1841 =>
retL R [] [some (AV.sc (.float .f64 r1841))])))))))))
theorem F130_own (a0 : Nat) (R : AV → Mem → Prop) (h : F130 a0 R) : Own pg KK.gl 130 [(AV.sc (.float .f64 a0))] R := own_of_F fol Tryz.func130 (code := c130) (by kernel_rfl) (by kernel_rfl) (by kernel_rfl) (X := F130 a0 R) (by kernel_rfl) h
/- math.Sin -/
noncomputable def c120 : Code := ((Tryz.f120).body).getD .skip
noncomputable def q120 (R : AV → Mem → Prop) : AExit → St → Prop := retQ pg Tryz.f120 R
noncomputable def F120 (a0 : Nat) (R : AV → Mem → Prop) : Prop :=
callQ pg KK.gl [] 130 [(AV.sc (.float .f64 a0))] fun v0 =>
exF v0 fun r1 =>
retL R [] [some (AV.sc (.float .f64 r1))]
theorem F120_own (a0 : Nat) (R : AV → Mem → Prop) (h : F120 a0 R) : Own pg KK.gl 120 [(AV.sc (.float .f64 a0))] R := own_of_F fol Tryz.func120 (code := c120) (by kernel_rfl) (by kernel_rfl) (by kernel_rfl) (X := F120 a0 R) (by kernel_rfl) h
/- math.Round -/
noncomputable def c119 : Code := ((Tryz.f119).body).getD .skip
noncomputable def q119 (R : AV → Mem → Prop) : AExit → St → Prop := retQ pg Tryz.f119 R
noncomputable def F119 (a0 : Nat) (R : AV → Mem → Prop) : Prop :=
callQ pg KK.gl [] 126 [(AV.sc (.float .f64 a0))] fun v0 =>
ex_u64 v0 fun z1 =>
opP (opA pg (.binOp .shr 152 (.tmp 0) (.tmp 1) 118) 152 [(AV.sc (.int .u64 z1)), (AV.sc (.int .u64 (52)))] (mget []) 68) fun v2 =>
ex_u64 v2 fun z3 =>
opP (opA pg (.binOp .and 118 (.tmp 0) (.tmp 1) 118) 118 [(AV.sc (.int .u64 z3)), (AV.sc (.int .u64 (2047)))] (mget []) 69) fun v4 =>
ex_u64 v4 fun z5 =>
bif (decide (z5 < (1023))) then (
opP (opA pg (.binOp .and 152 (.tmp 0) (.tmp 1) 152) 152 [(AV.sc (.int .u64 z1)), (AV.sc (.int .u64 (9223372036854775808)))] (mget []) 74) fun v6 =>
ex_u64 v6 fun z7 =>
bif (z5 == (1022)) then (
opP (opA pg (.binOp .or 152 (.tmp 0) (.tmp 1) 152) 152 [(AV.sc (.int .u64 z7)), (AV.sc (.int .u64 (4607182418800017408)))] (mget []) 79) fun v8 =>
ex_u64 v8 fun z9 =>
callQ pg KK.gl [] 125 [(AV.sc (.int .u64 z9))] fun v10 =>
exF v10 fun r11 =>
retL R [] [some (AV.sc (.float .f64 r11))]) else (
callQ pg KK.gl [] 125 [(AV.sc (.int .u64 z7))] fun v12 =>
exF v12 fun r13 =>
retL R [] [some (AV.sc (.float .f64 r13))])) else (
bif (decide (z5 < (1075))) then (
opP (opA pg (.binOp .shr 152 (.tmp 0) (.tmp 1) 118) 152 [(AV.sc (.int .u64 (2251799813685248))), (AV.sc (.int .u64 (IntKind.wrap .u64 (z5 - (1023)))))] (mget []) 80) fun v14 =>
ex_u64 v14 fun z15 =>
opP (opA pg (.binOp .shr 152 (.tmp 0) (.tmp 1) 118) 152 [(AV.sc (.int .u64 (4503599627370495))), (AV.sc (.int .u64 (IntKind.wrap .u64 (z5 - (1023)))))] (mget []) 85) fun v16 =>
ex_u64 v16 fun z17 =>
opP (opA pg (.binOp .andNot 152 (.tmp 0) (.tmp 1) 152) 152 [(AV.sc (.int .u64 (IntKind.wrap .u64 (z1 + z15)))), (AV.sc (.int .u64 z17))] (mget []) 86) fun v18 =>
ex_u64 v18 fun z19 =>
callQ pg KK.gl [] 125 [(AV.sc (.int .u64 z19))] fun v20 =>
exF v20 fun r21 =>
retL R [] [some (AV.sc (.float .f64 r21))]) else (
callQ pg KK.gl [] 125 [(AV.sc (.int .u64 z1))] fun v22 =>
exF v22 fun r23 =>
retL R [] [some (AV.sc (.float .f64 r23))]))
theorem F119_own (a0 : Nat) (R : AV → Mem → Prop) (h : F119 a0 R) : Own pg KK.gl 119 [(AV.sc (.float .f64 a0))] R := own_of_F fol Tryz.func119 (code := c119) (by kernel_rfl) (by kernel_rfl) (by kernel_rfl) (X := F119 a0 R) (by kernel_rfl) h
/- skyway/angle.Sin -/
noncomputable def c101 : Code := ((Tryz.f101).body).getD .skip
noncomputable def q101 (R : AV → Mem → Prop) : AExit → St → Prop := retQ pg Tryz.f101 R
noncomputable def F101 (a0 : Int) (R : AV → Mem → Prop) : Prop :=
callQ pg KK.gl [] 29 [(intA a0)] fun v0 =>
ex_i64 v0 fun z1 =>
opP (opA pg (.convert 3 127 (.tmp 0)) 127 [(intA z1)] (mget []) 66) fun v2 =>
exF v2 fun r3 =>
fop pg .mul 127 r3 4614256656552045848 67 fun r5 =>
fop pg .quo 127 r5 4656722014701092864 68 fun r7 =>
callQ pg KK.gl [] 120 [(AV.sc (.float .f64 r7))] fun v8 =>
exF v8 fun r9 =>
fop pg .mul 127 4670232813583204352 r9 133 fun r11 =>
callQ pg KK.gl [] 119 [(AV.sc (.float .f64 r11))] fun v12 =>
exF v12 fun r13 =>
opP (opA pg (.convert 127 3 (.tmp 0)) 3 [(AV.sc (.float .f64 r13))] (mget []) 198) fun v14 =>
ex_i64 v14 fun z15 =>
retL R [] [some (intA z15)]
theorem F101_own (a0 : Int) (R : AV → Mem → Prop) (h : F101 a0 R) : Own pg KK.gl 101 [(intA a0)] R := own_of_F fol Tryz.func101 (code := c101) (by kernel_rfl) (by kernel_rfl) (by kernel_rfl) (X := F101 a0 R) (by kernel_rfl) h
/- skyway/angle.Cos -/
noncomputable def c102 : Code := ((Tryz.f102).body).getD .skip
noncomputable def q102 (R : AV → Mem → Prop) : AExit → St → Prop := retQ pg Tryz.f102 R
noncomputable def F102 (a0 : Int) (R : AV → Mem → Prop) : Prop :=
callQ pg KK.gl [] 29 [(intA a0)] fun v0 =>
ex_i64 v0 fun z1 =>
callQ pg KK.gl [] 101 [(intA (IntKind.wrap .i64 (z1 + (1024))))] fun v2 =>
ex_i64 v2 fun z3 =>
retL R [] [some (intA z3)]
theorem F102_own (a0 : Int) (R : AV → Mem → Prop) (h : F102 a0 R) : Own pg KK.gl 102 [(intA a0)] R := own_of_F fol Tryz.func102 (code := c102) (by kernel_rfl) (by kernel_rfl) (by kernel_rfl) (X := F102 a0 R) (by kernel_rfl) h
/- math.Signbit -/
noncomputable def c116 : Code := ((Tryz.f116).body).getD .skip
noncomputable def q116 (R : AV → Mem → Prop) : AExit → St → Prop := retQ pg Tryz.f116 R
noncomputable def F116 (a0 : Nat) (R : AV → Mem → Prop) : Prop :=
callQ pg KK.gl [] 126 [(AV.sc (.float .f64 a0))] fun v0 =>
ex_u64 v0 fun z1 =>
opP (opA pg (.convert 152 2 (.tmp 0)) 2 [(AV.sc (.int .u64 z1))] (mget []) 66) fun v2 =>
ex_i64 v2 fun z3 =>
retL R [] [some (boolA (decide (z3 < (0))))]
theorem F116_own (a0 : Nat) (R : AV → Mem → Prop) (h : F116 a0 R) : Own pg KK.gl 116 [(AV.sc (.float .f64 a0))] R := own_of_F fol Tryz.func116 (code := c116) (by kernel_rfl) (by kernel_rfl) (by kernel_rfl) (X := F116 a0 R) (by kernel_rfl) h
/- math.Copysign -/
noncomputable def c117 : Code := ((Tryz.f117).body).getD .skip
noncomputable def q117 (R : AV → Mem → Prop) : AExit → St → Prop := retQ pg Tryz.f117 R
noncomputable def F117 (a0 : Nat) (a1 : Nat) (R : AV → Mem → Prop) : Prop :=
callQ pg KK.gl [] 126 [(AV.sc (.float .f64 a0))] fun v0 =>
ex_u64 v0 fun z1 =>
opP (opA pg (.binOp .andNot 152 (.tmp 0) (.tmp 1) 152) 152 [(AV.sc (.int .u64 z1)), (AV.sc (.int .u64 (9223372036854775808)))] (mget []) 66) fun v2 =>
ex_u64 v2 fun z3 =>
callQ pg KK.gl [] 126 [(AV.sc (.float .f64 a1))] fun v4 =>
ex_u64 v4 fun z5 =>
opP (opA pg (.binOp .and 152 (.tmp 0) (.tmp 1) 152) 152 [(AV.sc (.int .u64 z5)), (AV.sc (.int .u64 (9223372036854775808)))] (mget []) 132) fun v6 =>
ex_u64 v6 fun z7 =>
opP (opA pg (.binOp .or 152 (.tmp 0) (.tmp 1) 152) 152 [(AV.sc (.int .u64 z3)), (AV.sc (.int .u64 z7))] (mget []) 133) fun v8 =>
ex_u64 v8 fun z9 =>
callQ pg KK.gl [] 125 [(AV.sc (.int .u64 z9))] fun v10 =>
exF v10 fun r11 =>
retL R [] [some (AV.sc (.float .f64 r11))]
theorem F117_own (a0 : Nat) (a1 : Nat) (R : AV → Mem → Prop) (h : F117 a0 a1 R) : Own pg KK.gl 117 [(AV.sc (.float .f64 a0)), (AV.sc (.float .f64 a1))] R := own_of_F fol Tryz.func117 (code := c117) (by kernel_rfl) (by kernel_rfl) (by kernel_rfl) (X := F117 a0 a1 R) (by kernel_rfl) h
/- math.xatan -/
noncomputable def c136 : Code := ((Tryz.f136).body).getD .skip
noncomputable def q136 (R : AV → Mem → Prop) : AExit → St → Prop := retQ pg Tryz.f136 R
noncomputable def F136 (a0 : Nat) (R : AV → Mem → Prop) : Prop :=
fop pg .mul 127 a0 a0 3 fun r1 =>
fop pg .mul 127 13829429103926125972 r1 7 fun r3 =>
fop pg .add 127 r3 13848613196940411002 8 fun r5 =>
fop pg .mul 127 r5 r1 10 fun r7 =>
fop pg .add 127 r7 13858350711815275123 11 fun r9 =>
fop pg .mul 127 r9 r1 13 fun r11 =>
fop pg .add 127 r11 13861719834326579749 14 fun r13 =>
fop pg .mul 127 r13 r1 16 fun r15 =>
fop pg .add 127 r15 13857635882265799822 17 fun r17 =>
fop pg .mul 127 r1 r17 18 fun r19 =>
fop pg .add 127 r1 4627690253511319612 20 fun r21 =>
fop pg .mul 127 r21 r1 22 fun r23 =>
fop pg .add 127 r23 4640010388282866213 23 fun r25 =>
fop pg .mul 127 r25 r1 25 fun r27 =>
fop pg .add 127 r27 4646322940342877755 26 fun r29 =>
fop pg .mul 127 r29 r1 28 fun r31 =>
fop pg .add 127 r31 4647246694406179306 29 fun r33 =>
fop pg .mul 127 r33 r1 31 fun r35 =>
fop pg .add 127 r35 4641049159275471596 32 fun r37 =>
fop pg .quo 127 r19 r37 33 fun r39 =>
fop pg .mul 127 a0 r39 37 fun r41 =>
fop pg .add 127 r41 a0 39 fun r43 =>
retL R [] [some (AV.sc (.float .f64 r43))]
theorem F136_own (a0 : Nat) (R : AV → Mem → Prop) (h : F136 a0 R) : Own pg KK.gl 136 [(AV.sc (.float .f64 a0))] R := own_of_F fol Tryz.func136 (code := c136) (by kernel_rfl) (by kernel_rfl) (by kernel_rfl) (X := F136 a0 R) (by kernel_rfl) h
/- math.satan -/
noncomputable def c134 : Code := ((Tryz.f134).body).getD .skip
noncomputable def q134 (R : AV → Mem → Prop) : AExit → St → Prop := retQ pg Tryz.f134 R
noncomputable def F134 (a0 : Nat) (R : AV → Mem → Prop) : Prop :=
fcm pg .leq 127 4 a0 4604119971053405471 2 fun b1 =>
bif b1 then (
callQ pg KK.gl [] 136 [(AV.sc (.float .f64 a0))] fun v2 =>
exF v2 fun r3 =>
retL R [] [some (AV.sc (.float .f64 r3))]) else (
fcm pg .gtr 127 4 a0 4612618744449965542 4 fun b5 =>
bif b5 then (
fop pg .quo 127 4607182418800017408 a0 6 fun r7 =>
callQ pg KK.gl [] 136 [(AV.sc (.float .f64 r7))] fun v8 =>
exF v8 fun r9 =>
fop pg .sub 127 4609753056924675352 r9 71 fun r11 =>
fop pg .add 127 r11 4364452196894661639 72 fun r13 =>
retL R [] [some (AV.sc (.float .f64 r13))]) else (
fop pg .sub 127 a0 4607182418800017408 6 fun r15 =>
fop pg .add 127 a0 4607182418800017408 8 fun r17 =>
fop pg .quo 127 r15 r17 9 fun r19 =>
callQ pg KK.gl [] 136 [(AV.sc (.float .f64 r19))] fun v20 =>
exF v20 fun r21 =>
fop pg .add 127 4605249457297304856 r21 74 fun r23 =>
fop pg .add 127 r23 4359948597267291143 75 fun r25 =>
retL R [] [some (AV.sc (.float .f64 r25))]))
theorem F134_own (a0 : Nat) (R : AV → Mem → Prop) (h : F134 a0 R) : Own pg KK.gl 134 [(AV.sc (.float .f64 a0))] R := own_of_F fol Tryz.func134 (code := c134) (by kernel_rfl) (by kernel_rfl) (by kernel_rfl) (X := F134 a0 R) (by kernel_rfl) h
/- math.atan -/
noncomputable def c128 : Code := ((Tryz.f128).body).getD .skip
noncomputable def q128 (R : AV → Mem → Prop) : AExit → St → Prop := retQ pg Tryz.f128 R
noncomputable def F128 (a0 : Nat) (R : AV → Mem → Prop) : Prop :=
fcm pg .eql 127 4 a0 0 2 fun b1 =>
bif b1 then (
retL R [] [some (AV.sc (.float .f64 a0))]) else (
fcm pg .gtr 127 4 a0 0 4 fun b3 =>
bif b3 then (
callQ pg KK.gl [] 134 [(AV.sc (.float .f64 a0))] fun v4 =>
exF v4 fun r5 =>
retL R [] [some (AV.sc (.float .f64 r5))]) else (
fng pg 127 a0 6 fun r7 =>
callQ pg KK.gl [] 134 [(AV.sc (.float .f64 r7))] fun v8 =>
exF v8 fun r9 =>
fng pg 127 r9 71 fun r11 =>
retL R [] [some (AV.sc (.float .f64 r11))]))
theorem F128_own (a0 : Nat) (R : AV → Mem → Prop) (h : F128 a0 R) : Own pg KK.gl 128 [(AV.sc (.float .f64 a0))] R := own_of_F fol Tryz.func128 (code := c128) (by kernel_rfl) (by kernel_rfl) (by kernel_rfl) (X := F128 a0 R) (by kernel_rfl) h
/- math.Atan -/
noncomputable def c118 : Code := ((Tryz.f118).body).getD .skip
noncomputable def q118 (R : AV → Mem → Prop) : AExit → St → Prop := retQ pg Tryz.f118 R
noncomputable def F118 (a0 : Nat) (R : AV → Mem → Prop) : Prop :=
callQ pg KK.gl [] 128 [(AV.sc (.float .f64 a0))] fun v0 =>
exF v0 fun r1 =>
retL R [] [some (AV.sc (.float .f64 r1))]
theorem F118_own (a0 : Nat) (R : AV → Mem → Prop) (h : F118 a0 R) : Own pg KK.gl 118 [(AV.sc (.float .f64 a0))] R := own_of_F fol Tryz.func118 (code := c118) (by kernel_rfl) (by kernel_rfl) (by kernel_rfl) (X := F118 a0 R) (by kernel_rfl) h
/- math.atan2 -/
noncomputable def c100 : Code := ((Tryz.f100).body).getD .skip
noncomputable def q100 (R : AV → Mem → Prop) : AExit → St → Prop := retQ pg Tryz.f100 R
noncomputable def F100 (a0 : Nat) (a1 : Nat) (R : AV → Mem → Prop) : Prop :=
callQ pg KK.gl [] 112 [(AV.sc (.float .f64 a0))] fun v0 =>
exB v0 fun b1 =>
bif b1 then (
callQ pg KK.gl [] 115 [] fun v2 =>
exF v2 fun r3 =>
retL R [] [some (AV.sc (.float .f64 r3))]) else (
callQ pg KK.gl [] 112 [(AV.sc (.float .f64 a1))] fun v4 =>
exB v4 fun b5 =>
bif b5 then (
callQ pg KK.gl [] 115 [] fun v6 =>
exF v6 fun r7 =>
retL R [] [some (AV.sc (.float .f64 r7))]) else (
fcm pg .eql 127 4 a0 0 135 fun b9 =>
bif b9 then (
fcm pg .geq 127 4 a1 0 138 fun b11 =>
bif b11 then (
callQ pg KK.gl [] 116 [(AV.sc (.float .f64 a1))] fun v12 =>
exB v12 fun b13 =>
bif (!b13) then (
callQ pg KK.gl [] 117 [(AV.sc (.float .f64 0)), (AV.sc (.float .f64 a0))] fun v14 =>
exF v14 fun r15 =>
retL R [] [some (AV.sc (.float .f64 r15))]) else (
callQ pg KK.gl [] 117 [(AV.sc (.float .f64 4614256656552045848)), (AV.sc (.float .f64 a0))] fun v16 =>
exF v16 fun r17 =>
retL R [] [some (AV.sc (.float .f64 r17))])) else (
callQ pg KK.gl [] 117 [(AV.sc (.float .f64 4614256656552045848)), (AV.sc (.float .f64 a0))] fun v18 =>
exF v18 fun r19 =>
retL R [] [some (AV.sc (.float .f64 r19))])) else (
fcm pg .eql 127 4 a1 0 138 fun b21 =>
bif b21 then (
callQ pg KK.gl [] 117 [(AV.sc (.float .f64 4609753056924675352)), (AV.sc (.float .f64 a0))] fun v22 =>
exF v22 fun r23 =>
retL R [] [some (AV.sc (.float .f64 r23))]) else (
callQ pg KK.gl [] 113 [(AV.sc (.float .f64 a1)), (intA (0))] fun v24 =>
exB v24 fun b25 =>
bif b25 then (
callQ pg KK.gl [] 113 [(AV.sc (.float .f64 a1)), (intA (1))] fun v26 =>
exB v26 fun b27 =>
bif b27 then (
callQ pg KK.gl [] 113 [(AV.sc (.float .f64 a0)), (intA (0))] fun v28 =>
exB v28 fun b29 =>
bif b29 then (
callQ pg KK.gl [] 117 [(AV.sc (.float .f64 4605249457297304856)), (AV.sc (.float .f64 a0))] fun v30 =>
exF v30 fun r31 =>
retL R [] [some (AV.sc (.float .f64 r31))]) else (
callQ pg KK.gl [] 117 [(AV.sc (.float .f64 0)), (AV.sc (.float .f64 a0))] fun v32 =>
exF v32 fun r33 =>
retL R [] [some (AV.sc (.float .f64 r33))])) else (
callQ pg KK.gl [] 113 [(AV.sc (.float .f64 a0)), (intA (0))] fun v34 =>
exB v34 fun b35 =>
bif b35 then (
callQ pg KK.gl [] 117 [(AV.sc (.float .f64 4612488097114038738)), (AV.sc (.float .f64 a0))] fun v36 =>
exF v36 fun r37 =>
retL R [] [some (AV.sc (.float .f64 r37))]) else (
callQ pg KK.gl [] 117 [(AV.sc (.float .f64 4614256656552045848)), (AV.sc (.float .f64 a0))] fun v38 =>
exF v38 fun r39 =>
retL R [] [some (AV.sc (.float .f64 r39))]))) else (
callQ pg KK.gl [] 113 [(AV.sc (.float .f64 a0)), (intA (0))] fun v40 =>
exB v40 fun b41 =>
bif b41 then (
callQ pg KK.gl [] 117 [(AV.sc (.float .f64 4609753056924675352)), (AV.sc (.float .f64 a0))] fun v42 =>
exF v42 fun r43 =>
retL R [] [some (AV.sc (.float .f64 r43))]) else (
fop pg .quo 127 a0 a1 274 fun r45 =>
callQ pg KK.gl [] 118 [(AV.sc (.float .f64 r45))] fun v46 =>
exF v46 fun r47 =>
fcm pg .lss 127 4 a1 0 341 fun b49 =>
bif b49 then (
fcm pg .leq 127 4 r47 0 343 fun b51 =>
bif b51 then (
fop pg .add 127 r47 4614256656552045848 345 fun r53 =>
retL R [] [some (AV.sc (.float .f64 r53))]) else (
fop pg .sub 127 r47 4614256656552045848 345 fun r55 =>
retL R [] [some (AV.sc (.float .f64 r55))])) else (
retL R [] [some (AV.sc (.float .f64 r47))])))))))
theorem F100_own (a0 : Nat) (a1 : Nat) (R : AV → Mem → Prop) (h : F100 a0 a1 R) : Own pg KK.gl 100 [(AV.sc (.float .f64 a0)), (AV.sc (.float .f64 a1))] R := own_of_F fol Tryz.func100 (code := c100) (by kernel_rfl) (by kernel_rfl) (by kernel_rfl) (X := F100 a0 a1 R) (by kernel_rfl) h
/- math.Atan2 -/
noncomputable def c74 : Code := ((Tryz.f74).body).getD .skip
noncomputable def q74 (R : AV → Mem → Prop) : AExit → St → Prop := retQ pg Tryz.f74 R
noncomputable def F74 (a0 : Nat) (a1 : Nat) (R : AV → Mem → Prop) : Prop :=
callQ pg KK.gl [] 100 [(AV.sc (.float .f64 a0)), (AV.sc (.float .f64 a1))] fun v0 =>
exF v0 fun r1 =>
retL R [] [some (AV.sc (.float .f64 r1))]
theorem F74_own (a0 : Nat) (a1 : Nat) (R : AV → Mem → Prop) (h : F74 a0 a1 R) : Own pg KK.gl 74 [(AV.sc (.float .f64 a0)), (AV.sc (.float .f64 a1))] R := own_of_F fol Tryz.func74 (code := c74) (by kernel_rfl) (by kernel_rfl) (by kernel_rfl) (X := F74 a0 a1 R) (by kernel_rfl) h
/- math.Floor -/
noncomputable def c73 : Code := ((Tryz.f73).body).getD .skip
noncomputable def q73 (R : AV → Mem → Prop) : AExit → St → Prop := retQ pg Tryz.f73 R
noncomputable def F73 (a0 : Nat) (R : AV → Mem → Prop) : Prop :=
callQ pg KK.gl [] 97 [(AV.sc (.float .f64 a0))] fun v0 =>
exF v0 fun r1 =>
retL R [] [some (AV.sc (.float .f64 r1))]
theorem F73_own (a0 : Nat) (R : AV → Mem → Prop) (h : F73 a0 R) : Own pg KK.gl 73 [(AV.sc (.float .f64 a0))] R := own_of_F fol Tryz.func73 (code := c73) (by kernel_rfl) (by kernel_rfl) (by kernel_rfl) (X := F73 a0 R) (by kernel_rfl) h
/- skyway/angle.unit -/
noncomputable def c75 : Code := ((Tryz.f75).body).getD .skip
noncomputable def q75 (R : AV → Mem → Prop) : AExit → St → Prop := retQ pg Tryz.f75 R
noncomputable def F75 (a0 : Int) (R : AV → Mem → Prop) : Prop :=
callQ pg KK.gl ((0, some ⟨[(intA (0)), (intA (0))], 45⟩) :: []) 101 [(intA a0)] fun v0 =>
ex_i64 v0 fun z1 =>
callQ pg KK.gl ((0, some ⟨[(intA (0)), (intA (0))], 45⟩) :: []) 102 [(intA a0)] fun v2 =>
ex_i64 v2 fun z3 =>
opP (bld [(intA (0)), (intA (0))] [(0, 1), (1, 1)] [(0, (intA z1)), (1, (intA z3))]) fun v4 =>
storeW pg (mget ((0, some ⟨[(intA (0)), (intA (0))], 45⟩) :: [])) 45 (AV.ptr 0 0) v4 fun v5 d5 =>
retL R (mpushs ((0, some ⟨[(intA (0)), (intA (0))], 45⟩) :: []) d5) [(aLoad pg (mget (mpushs ((0, some ⟨[(intA (0)), (intA (0))], 45⟩) :: []) d5)) 45 (AV.ptr 0 0)).map (·.1)]
theorem F75_own (a0 : Int) (R : AV → Mem → Prop) (h : F75 a0 R) : Own pg KK.gl 75 [(intA a0)] R := own_of_F fol Tryz.func75 (code := c75) (by kernel_rfl) (by kernel_rfl) (by kernel_rfl) (X := F75 a0 R) (by kernel_rfl) h
/- skyway/angle.cross -/
noncomputable def c76 : Code := ((Tryz.f76).body).getD .skip
noncomputable def q76 (R : AV → Mem → Prop) : AExit → St → Prop := retQ pg Tryz.f76 R
noncomputable def F76 (a0_0 : Int) (a0_1 : Int) (a1_0 : Int) (a1_1 : Int) (R : AV → Mem → Prop) : Prop :=
retL R ((1, some ⟨[(intA a1_0), (intA a1_1)], 45⟩) :: (0, some ⟨[(intA a0_0), (intA a0_1)], 45⟩) :: []) [some (intA (IntKind.wrap .i64 ((IntKind.wrap .i64 (a0_1 * a1_0)) - (IntKind.wrap .i64 (a0_0 * a1_1)))))]
theorem F76_own (a0_0 : Int) (a0_1 : Int) (a1_0 : Int) (a1_1 : Int) (R : AV → Mem → Prop) (h : F76 a0_0 a0_1 a1_0 a1_1 R) : Own pg KK.gl 76 [(AV.agg [(intA a0_0), (intA a0_1)]), (AV.agg [(intA a1_0), (intA a1_1)])] R := own_of_F fol Tryz.func76 (code := c76) (by kernel_rfl) (by kernel_rfl) (by kernel_rfl) (X := F76 a0_0 a0_1 a1_0 a1_1 R) (by kernel_rfl) h
/- skyway/angle.Of -/
noncomputable def c54 : Code := ((Tryz.f54).body).getD .skip
noncomputable def q54 (R : AV → Mem → Prop) : AExit → St → Prop := retQ pg Tryz.f54 R
noncomputable def c54_0 : Code := loopB c54 0
noncomputable def q54_0 (R : AV → Mem → Prop) : AExit → St → Prop := contW pg KK 103 0 c54 0 (q54 R)
noncomputable def qq54_0 (R : AV → Mem → Prop) (N0 : St → Prop) : AExit → St → Prop := thenQ N0 (q54_0 R)
def h54_0 (t2 : Int) (t3 : Int) (t4 : Int) (t50 : Int) (b0_0 : Int) (b0_1 : Int) (m : Mem) : St := ⟨[(1, (AV.ptr 0 0)), (2, (intA t2)), (3, (intA t3)), (4, (intA t4)), (50, (intA t50))], ((0, some ⟨[(intA b0_0), (intA b0_1)], 45⟩) :: m), 100000⟩
noncomputable def B54_0 (t2 : Int) (t3 : Int) (t4 : Int) (t50 : Int) (b0_0 : Int) (b0_1 : Int) (m : Mem) (R : AV → Mem → Prop) (N0 : St → Prop) : Prop :=
bif (decide (t50 < (4096))) then (
callQ pg KK.gl ((0, some ⟨[(intA b0_0), (intA b0_1)], 45⟩) :: m) 29 [(intA (IntKind.wrap .i64 (t4 + t50)))] fun v14 =>
ex_i64 v14 fun z15 =>
bif ((Int.tmod t50 (2)) == (1)) then (
callQ pg KK.gl ((0, some ⟨[(intA b0_0), (intA b0_1)], 45⟩) :: m) 29 [(intA (IntKind.wrap .i64 (t4 - t50)))] fun v16 =>
ex_i64 v16 fun z17 =>
callQ pg KK.gl ((0, some ⟨[(intA b0_0), (intA b0_1)], 45⟩) :: m) 75 [(intA z17)] fun v18 =>
exA2 v18 fun c19 c20 =>
ex_i64 c19 fun z21 =>
ex_i64 c20 fun z22 =>
callQ pg KK.gl ((0, some ⟨[(intA b0_0), (intA b0_1)], 45⟩) :: m) 75 [(intA (IntKind.wrap .i64 (z17 + (1))))] fun v23 =>
exA2 v23 fun c24 c25 =>
ex_i64 c24 fun z26 =>
ex_i64 c25 fun z27 =>
callQ pg KK.gl ((100274, some ⟨[(intA z26), (intA z27)], 45⟩) :: (100273, some ⟨[(intA z21), (intA z22)], 45⟩) :: (100274, some ⟨[(intA (0)), (intA (0))], 45⟩) :: (100273, some ⟨[(intA (0)), (intA (0))], 45⟩) :: (0, some ⟨[(intA b0_0), (intA b0_1)], 45⟩) :: m) 76 [(AV.agg [(intA z21), (intA z22)]), (AV.agg [(intA b0_0), (intA b0_1)])] fun v28 =>
ex_i64 v28 fun z29 =>
callQ pg KK.gl ((100274, some ⟨[(intA z26), (intA z27)], 45⟩) :: (100273, some ⟨[(intA z21), (intA z22)], 45⟩) :: (100274, some ⟨[(intA (0)), (intA (0))], 45⟩) :: (100273, some ⟨[(intA (0)), (intA (0))], 45⟩) :: (0, some ⟨[(intA b0_0), (intA b0_1)], 45⟩) :: m) 76 [(AV.agg [(intA b0_0), (intA b0_1)]), (AV.agg [(intA z26), (intA z27)])] fun v30 =>
ex_i64 v30 fun z31 =>
bif (decide (z29 ≥ (0))) then (
bif (decide (z31 > (0))) then (
bif (decide ((IntKind.wrap .i64 ((IntKind.wrap .i64 (z21 * b0_0)) + (IntKind.wrap .i64 (z22 * b0_1)))) > (0))) then (
bif (decide (z29 ≤ z31)) then (
retL R ((100274, some ⟨[(intA z26), (intA z27)], 45⟩) :: (100273, some ⟨[(intA z21), (intA z22)], 45⟩) :: (100274, some ⟨[(intA (0)), (intA (0))], 45⟩) :: (100273, some ⟨[(intA (0)), (intA (0))], 45⟩) :: (0, some ⟨[(intA b0_0), (intA b0_1)], 45⟩) :: m) [some (intA z17), some (intA (0))]) else (
callQ pg KK.gl ((100274, some ⟨[(intA z26), (intA z27)], 45⟩) :: (100273, some ⟨[(intA z21), (intA z22)], 45⟩) :: (100274, some ⟨[(intA (0)), (intA (0))], 45⟩) :: (100273, some ⟨[(intA (0)), (intA (0))], 45⟩) :: (0, some ⟨[(intA b0_0), (intA b0_1)], 45⟩) :: m) 29 [(intA (IntKind.wrap .i64 (z17 + (1))))] fun v32 =>
ex_i64 v32 fun z33 =>
retL R ((100274, some ⟨[(intA z26), (intA z27)], 45⟩) :: (100273, some ⟨[(intA z21), (intA z22)], 45⟩) :: (100274, some ⟨[(intA (0)), (intA (0))], 45⟩) :: (100273, some ⟨[(intA (0)), (intA (0))], 45⟩) :: (0, some ⟨[(intA b0_0), (intA b0_1)], 45⟩) :: m) [some (intA z33), some (intA (0))])) else (
N0 ⟨[(1, (AV.ptr 0 0)), (2, (intA t2)), (3, (intA t3)), (4, (intA t4)), (50, (intA (IntKind.wrap .i64 (t50 + (1))))), (51, (boolA (decide (t50 < (4096))))), (52, (intA t50)), (5, (intA t50)), (53, (intA t4)), (54, (intA t50)), (55, (intA (IntKind.wrap .i64 (t4 + t50)))), (56, (intA z15)), (6, (intA z17)), (57, (intA t50)), (58, (intA (Int.tmod t50 (2)))), (59, (boolA ((Int.tmod t50 (2)) == (1)))), (60, (intA t4)), (61, (intA t50)), (62, (intA (IntKind.wrap .i64 (t4 - t50)))), (63, (intA z17)), (64, (intA z17)), (65, (AV.agg [(intA z21), (intA z22)])), (66, (intA z17)), (67, (intA (IntKind.wrap .i64 (z17 + (1))))), (68, (AV.agg [(intA z26), (intA z27)])), (7, (AV.ptr 100273 0)), (8, (AV.ptr 100274 0)), (69, (AV.agg [(intA z21), (intA z22)])), (70, (AV.agg [(intA b0_0), (intA b0_1)])), (71, (intA z29)), (72, (AV.agg [(intA b0_0), (intA b0_1)])), (73, (AV.agg [(intA z26), (intA z27)])), (74, (intA z31)), (9, (intA z29)), (10, (intA z31)), (75, (intA z29)), (76, (boolA (decide (z29 ≥ (0))))), (77, (boolA true)), (78, (intA z31)), (79, (boolA (decide (z31 > (0))))), (80, (boolA (decide (z31 > (0))))), (81, (boolA true)), (82, (AV.ptr 100273 0)), (83, (intA z21)), (84, (AV.ptr 0 0)), (85, (intA b0_0)), (86, (intA (IntKind.wrap .i64 (z21 * b0_0)))), (87, (AV.ptr 100273 1)), (88, (intA z22)), (89, (AV.ptr 0 1)), (90, (intA b0_1)), (91, (intA (IntKind.wrap .i64 (z22 * b0_1)))), (92, (intA (IntKind.wrap .i64 ((IntKind.wrap .i64 (z21 * b0_0)) + (IntKind.wrap .i64 (z22 * b0_1)))))), (93, (boolA (decide ((IntKind.wrap .i64 ((IntKind.wrap .i64 (z21 * b0_0)) + (IntKind.wrap .i64 (z22 * b0_1)))) > (0))))), (94, (boolA (decide ((IntKind.wrap .i64 ((IntKind.wrap .i64 (z21 * b0_0)) + (IntKind.wrap .i64 (z22 * b0_1)))) > (0))))), (102, (intA (IntKind.wrap .i64 (t50 + (1)))))], ((100274, some ⟨[(intA z26), (intA z27)], 45⟩) :: (100273, some ⟨[(intA z21), (intA z22)], 45⟩) :: (100274, some ⟨[(intA (0)), (intA (0))], 45⟩) :: (100273, some ⟨[(intA (0)), (intA (0))], 45⟩) :: (0, some ⟨[(intA b0_0), (intA b0_1)], 45⟩) :: m), 100307⟩)) else (
N0 ⟨[(1, (AV.ptr 0 0)), (2, (intA t2)), (3, (intA t3)), (4, (intA t4)), (50, (intA (IntKind.wrap .i64 (t50 + (1))))), (51, (boolA (decide (t50 < (4096))))), (52, (intA t50)), (5, (intA t50)), (53, (intA t4)), (54, (intA t50)), (55, (intA (IntKind.wrap .i64 (t4 + t50)))), (56, (intA z15)), (6, (intA z17)), (57, (intA t50)), (58, (intA (Int.tmod t50 (2)))), (59, (boolA ((Int.tmod t50 (2)) == (1)))), (60, (intA t4)), (61, (intA t50)), (62, (intA (IntKind.wrap .i64 (t4 - t50)))), (63, (intA z17)), (64, (intA z17)), (65, (AV.agg [(intA z21), (intA z22)])), (66, (intA z17)), (67, (intA (IntKind.wrap .i64 (z17 + (1))))), (68, (AV.agg [(intA z26), (intA z27)])), (7, (AV.ptr 100273 0)), (8, (AV.ptr 100274 0)), (69, (AV.agg [(intA z21), (intA z22)])), (70, (AV.agg [(intA b0_0), (intA b0_1)])), (71, (intA z29)), (72, (AV.agg [(intA b0_0), (intA b0_1)])), (73, (AV.agg [(intA z26), (intA z27)])), (74, (intA z31)), (9, (intA z29)), (10, (intA z31)), (75, (intA z29)), (76, (boolA (decide (z29 ≥ (0))))), (77, (boolA true)), (78, (intA z31)), (79, (boolA (decide (z31 > (0))))), (80, (boolA (decide (z31 > (0))))), (81, (boolA false)), (82, (AV.tup [])), (83, (AV.tup [])), (84, (AV.tup [])), (85, (AV.tup [])), (86, (AV.tup [])), (87, (AV.tup [])), (88, (AV.tup [])), (89, (AV.tup [])), (90, (AV.tup [])), (91, (AV.tup [])), (92, (AV.tup [])), (93, (AV.tup [])), (94, (boolA false)), (102, (intA (IntKind.wrap .i64 (t50 + (1)))))], ((100274, some ⟨[(intA z26), (intA z27)], 45⟩) :: (100273, some ⟨[(intA z21), (intA z22)], 45⟩) :: (100274, some ⟨[(intA (0)), (intA (0))], 45⟩) :: (100273, some ⟨[(intA (0)), (intA (0))], 45⟩) :: (0, some ⟨[(intA b0_0), (intA b0_1)], 45⟩) :: m), 100295⟩)) else (
N0 ⟨[(1, (AV.ptr 0 0)), (2, (intA t2)), (3, (intA t3)), (4, (intA t4)), (50, (intA (IntKind.wrap .i64 (t50 + (1))))), (51, (boolA (decide (t50 < (4096))))), (52, (intA t50)), (5, (intA t50)), (53, (intA t4)), (54, (intA t50)), (55, (intA (IntKind.wrap .i64 (t4 + t50)))), (56, (intA z15)), (6, (intA z17)), (57, (intA t50)), (58, (intA (Int.tmod t50 (2)))), (59, (boolA ((Int.tmod t50 (2)) == (1)))), (60, (intA t4)), (61, (intA t50)), (62, (intA (IntKind.wrap .i64 (t4 - t50)))), (63, (intA z17)), (64, (intA z17)), (65, (AV.agg [(intA z21), (intA z22)])), (66, (intA z17)), (67, (intA (IntKind.wrap .i64 (z17 + (1))))), (68, (AV.agg [(intA z26), (intA z27)])), (7, (AV.ptr 100273 0)), (8, (AV.ptr 100274 0)), (69, (AV.agg [(intA z21), (intA z22)])), (70, (AV.agg [(intA b0_0), (intA b0_1)])), (71, (intA z29)), (72, (AV.agg [(intA b0_0), (intA b0_1)])), (73, (AV.agg [(intA z26), (intA z27)])), (74, (intA z31)), (9, (intA z29)), (10, (intA z31)), (75, (intA z29)), (76, (boolA (decide (z29 ≥ (0))))), (77, (boolA false)), (78, (AV.tup [])), (79, (AV.tup [])), (80, (boolA false)), (81, (boolA false)), (82, (AV.tup [])), (83, (AV.tup [])), (84, (AV.tup [])), (85, (AV.tup [])), (86, (AV.tup [])), (87, (AV.tup [])), (88, (AV.tup [])), (89, (AV.tup [])), (90, (AV.tup [])), (91, (AV.tup [])), (92, (AV.tup [])), (93, (AV.tup [])), (94, (boolA false)), (102, (intA (IntKind.wrap .i64 (t50 + (1)))))], ((100274, some ⟨[(intA z26), (intA z27)], 45⟩) :: (100273, some ⟨[(intA z21), (intA z22)], 45⟩) :: (100274, some ⟨[(intA (0)), (intA (0))], 45⟩) :: (100273, some ⟨[(intA (0)), (intA (0))], 45⟩) :: (0, some ⟨[(intA b0_0), (intA b0_1)], 45⟩) :: m), 100293⟩)) else (
callQ pg KK.gl ((0, some ⟨[(intA b0_0), (intA b0_1)], 45⟩) :: m) 75 [(intA z15)] fun v34 =>
exA2 v34 fun c35 c36 =>
ex_i64 c35 fun z37 =>
ex_i64 c36 fun z38 =>
callQ pg KK.gl ((0, some ⟨[(intA b0_0), (intA b0_1)], 45⟩) :: m) 75 [(intA (IntKind.wrap .i64 (z15 + (1))))] fun v39 =>
exA2 v39 fun c40 c41 =>
ex_i64 c40 fun z42 =>
ex_i64 c41 fun z43 =>
callQ pg KK.gl ((100206, some ⟨[(intA z42), (intA z43)], 45⟩) :: (100205, some ⟨[(intA z37), (intA z38)], 45⟩) :: (100206, some ⟨[(intA (0)), (intA (0))], 45⟩) :: (100205, some ⟨[(intA (0)), (intA (0))], 45⟩) :: (0, some ⟨[(intA b0_0), (intA b0_1)], 45⟩) :: m) 76 [(AV.agg [(intA z37), (intA z38)]), (AV.agg [(intA b0_0), (intA b0_1)])] fun v44 =>
ex_i64 v44 fun z45 =>
callQ pg KK.gl ((100206, some ⟨[(intA z42), (intA z43)], 45⟩) :: (100205, some ⟨[(intA z37), (intA z38)], 45⟩) :: (100206, some ⟨[(intA (0)), (intA (0))], 45⟩) :: (100205, some ⟨[(intA (0)), (intA (0))], 45⟩) :: (0, some ⟨[(intA b0_0), (intA b0_1)], 45⟩) :: m) 76 [(AV.agg [(intA b0_0), (intA b0_1)]), (AV.agg [(intA z42), (intA z43)])] fun v46 =>
ex_i64 v46 fun z47 =>
bif (decide (z45 ≥ (0))) then (
bif (decide (z47 > (0))) then (
bif (decide ((IntKind.wrap .i64 ((IntKind.wrap .i64 (z37 * b0_0)) + (IntKind.wrap .i64 (z38 * b0_1)))) > (0))) then (
bif (decide (z45 ≤ z47)) then (
retL R ((100206, some ⟨[(intA z42), (intA z43)], 45⟩) :: (100205, some ⟨[(intA z37), (intA z38)], 45⟩) :: (100206, some ⟨[(intA (0)), (intA (0))], 45⟩) :: (100205, some ⟨[(intA (0)), (intA (0))], 45⟩) :: (0, some ⟨[(intA b0_0), (intA b0_1)], 45⟩) :: m) [some (intA z15), some (intA (0))]) else (
callQ pg KK.gl ((100206, some ⟨[(intA z42), (intA z43)], 45⟩) :: (100205, some ⟨[(intA z37), (intA z38)], 45⟩) :: (100206, some ⟨[(intA (0)), (intA (0))], 45⟩) :: (100205, some ⟨[(intA (0)), (intA (0))], 45⟩) :: (0, some ⟨[(intA b0_0), (intA b0_1)], 45⟩) :: m) 29 [(intA (IntKind.wrap .i64 (z15 + (1))))] fun v48 =>
ex_i64 v48 fun z49 =>
retL R ((100206, some ⟨[(intA z42), (intA z43)], 45⟩) :: (100205, some ⟨[(intA z37), (intA z38)], 45⟩) :: (100206, some ⟨[(intA (0)), (intA (0))], 45⟩) :: (100205, some ⟨[(intA (0)), (intA (0))], 45⟩) :: (0, some ⟨[(intA b0_0), (intA b0_1)], 45⟩) :: m) [some (intA z49), some (intA (0))])) else (
N0 ⟨[(1, (AV.ptr 0 0)), (2, (intA t2)), (3, (intA t3)), (4, (intA t4)), (50, (intA (IntKind.wrap .i64 (t50 + (1))))), (51, (boolA (decide (t50 < (4096))))), (52, (intA t50)), (5, (intA t50)), (53, (intA t4)), (54, (intA t50)), (55, (intA (IntKind.wrap .i64 (t4 + t50)))), (56, (intA z15)), (6, (intA z15)), (57, (intA t50)), (58, (intA (Int.tmod t50 (2)))), (59, (boolA ((Int.tmod t50 (2)) == (1)))), (64, (intA z15)), (65, (AV.agg [(intA z37), (intA z38)])), (66, (intA z15)), (67, (intA (IntKind.wrap .i64 (z15 + (1))))), (68, (AV.agg [(intA z42), (intA z43)])), (7, (AV.ptr 100205 0)), (8, (AV.ptr 100206 0)), (69, (AV.agg [(intA z37), (intA z38)])), (70, (AV.agg [(intA b0_0), (intA b0_1)])), (71, (intA z45)), (72, (AV.agg [(intA b0_0), (intA b0_1)])), (73, (AV.agg [(intA z42), (intA z43)])), (74, (intA z47)), (9, (intA z45)), (10, (intA z47)), (75, (intA z45)), (76, (boolA (decide (z45 ≥ (0))))), (77, (boolA true)), (78, (intA z47)), (79, (boolA (decide (z47 > (0))))), (80, (boolA (decide (z47 > (0))))), (81, (boolA true)), (82, (AV.ptr 100205 0)), (83, (intA z37)), (84, (AV.ptr 0 0)), (85, (intA b0_0)), (86, (intA (IntKind.wrap .i64 (z37 * b0_0)))), (87, (AV.ptr 100205 1)), (88, (intA z38)), (89, (AV.ptr 0 1)), (90, (intA b0_1)), (91, (intA (IntKind.wrap .i64 (z38 * b0_1)))), (92, (intA (IntKind.wrap .i64 ((IntKind.wrap .i64 (z37 * b0_0)) + (IntKind.wrap .i64 (z38 * b0_1)))))), (93, (boolA (decide ((IntKind.wrap .i64 ((IntKind.wrap .i64 (z37 * b0_0)) + (IntKind.wrap .i64 (z38 * b0_1)))) > (0))))), (94, (boolA (decide ((IntKind.wrap .i64 ((IntKind.wrap .i64 (z37 * b0_0)) + (IntKind.wrap .i64 (z38 * b0_1)))) > (0))))), (102, (intA (IntKind.wrap .i64 (t50 + (1)))))], ((100206, some ⟨[(intA z42), (intA z43)], 45⟩) :: (100205, some ⟨[(intA z37), (intA z38)], 45⟩) :: (100206, some ⟨[(intA (0)), (intA (0))], 45⟩) :: (100205, some ⟨[(intA (0)), (intA (0))], 45⟩) :: (0, some ⟨[(intA b0_0), (intA b0_1)], 45⟩) :: m), 100239⟩)) else (
N0 ⟨[(1, (AV.ptr 0 0)), (2, (intA t2)), (3, (intA t3)), (4, (intA t4)), (50, (intA (IntKind.wrap .i64 (t50 + (1))))), (51, (boolA (decide (t50 < (4096))))), (52, (intA t50)), (5, (intA t50)), (53, (intA t4)), (54, (intA t50)), (55, (intA (IntKind.wrap .i64 (t4 + t50)))), (56, (intA z15)), (6, (intA z15)), (57, (intA t50)), (58, (intA (Int.tmod t50 (2)))), (59, (boolA ((Int.tmod t50 (2)) == (1)))), (64, (intA z15)), (65, (AV.agg [(intA z37), (intA z38)])), (66, (intA z15)), (67, (intA (IntKind.wrap .i64 (z15 + (1))))), (68, (AV.agg [(intA z42), (intA z43)])), (7, (AV.ptr 100205 0)), (8, (AV.ptr 100206 0)), (69, (AV.agg [(intA z37), (intA z38)])), (70, (AV.agg [(intA b0_0), (intA b0_1)])), (71, (intA z45)), (72, (AV.agg [(intA b0_0), (intA b0_1)])), (73, (AV.agg [(intA z42), (intA z43)])), (74, (intA z47)), (9, (intA z45)), (10, (intA z47)), (75, (intA z45)), (76, (boolA (decide (z45 ≥ (0))))), (77, (boolA true)), (78, (intA z47)), (79, (boolA (decide (z47 > (0))))), (80, (boolA (decide (z47 > (0))))), (81, (boolA false)), (82, (AV.tup [])), (83, (AV.tup [])), (84, (AV.tup [])), (85, (AV.tup [])), (86, (AV.tup [])), (87, (AV.tup [])), (88, (AV.tup [])), (89, (AV.tup [])), (90, (AV.tup [])), (91, (AV.tup [])), (92, (AV.tup [])), (93, (AV.tup [])), (94, (boolA false)), (102, (intA (IntKind.wrap .i64 (t50 + (1)))))], ((100206, some ⟨[(intA z42), (intA z43)], 45⟩) :: (100205, some ⟨[(intA z37), (intA z38)], 45⟩) :: (100206, some ⟨[(intA (0)), (intA (0))], 45⟩) :: (100205, some ⟨[(intA (0)), (intA (0))], 45⟩) :: (0, some ⟨[(intA b0_0), (intA b0_1)], 45⟩) :: m), 100227⟩)) else (
N0 ⟨[(1, (AV.ptr 0 0)), (2, (intA t2)), (3, (intA t3)), (4, (intA t4)), (50, (intA (IntKind.wrap .i64 (t50 + (1))))), (51, (boolA (decide (t50 < (4096))))), (52, (intA t50)), (5, (intA t50)), (53, (intA t4)), (54, (intA t50)), (55, (intA (IntKind.wrap .i64 (t4 + t50)))), (56, (intA z15)), (6, (intA z15)), (57, (intA t50)), (58, (intA (Int.tmod t50 (2)))), (59, (boolA ((Int.tmod t50 (2)) == (1)))), (64, (intA z15)), (65, (AV.agg [(intA z37), (intA z38)])), (66, (intA z15)), (67, (intA (IntKind.wrap .i64 (z15 + (1))))), (68, (AV.agg [(intA z42), (intA z43)])), (7, (AV.ptr 100205 0)), (8, (AV.ptr 100206 0)), (69, (AV.agg [(intA z37), (intA z38)])), (70, (AV.agg [(intA b0_0), (intA b0_1)])), (71, (intA z45)), (72, (AV.agg [(intA b0_0), (intA b0_1)])), (73, (AV.agg [(intA z42), (intA z43)])), (74, (intA z47)), (9, (intA z45)), (10, (intA z47)), (75, (intA z45)), (76, (boolA (decide (z45 ≥ (0))))), (77, (boolA false)), (78, (AV.tup [])), (79, (AV.tup [])), (80, (boolA false)), (81, (boolA false)), (82, (AV.tup [])), (83, (AV.tup [])), (84, (AV.tup [])), (85, (AV.tup [])), (86, (AV.tup [])), (87, (AV.tup [])), (88, (AV.tup [])), (89, (AV.tup [])), (90, (AV.tup [])), (91, (AV.tup [])), (92, (AV.tup [])), (93, (AV.tup [])), (94, (boolA false)), (102, (intA (IntKind.wrap .i64 (t50 + (1)))))], ((100206, some ⟨[(intA z42), (intA z43)], 45⟩) :: (100205, some ⟨[(intA z37), (intA z38)], 45⟩) :: (100206, some ⟨[(intA (0)), (intA (0))], 45⟩) :: (100205, some ⟨[(intA (0)), (intA (0))], 45⟩) :: (0, some ⟨[(intA b0_0), (intA b0_1)], 45⟩) :: m), 100225⟩))) else (
retL R ((0, some ⟨[(intA b0_0), (intA b0_1)], 45⟩) :: m) [some (intA (0)), some (intA (0))])
theorem B54_0_eq (t2 : Int) (t3 : Int) (t4 : Int) (t50 : Int) (b0_0 : Int) (b0_1 : Int) (m : Mem) (R : AV → Mem → Prop) (N0 : St → Prop) : W pg KK 103 0 c54_0 (h54_0 t2 t3 t4 t50 b0_0 b0_1 m) (qq54_0 R N0) = B54_0 t2 t3 t4 t50 b0_0 b0_1 m R N0 := by kernel_rfl
theorem L54_0 (R : AV → Mem → Prop) {σ : Type} (I : σ → Prop) (t2 : σ → Int) (t3 : σ → Int) (t4 : σ → Int) (t50 : σ → Int) (b0_0 : σ → Int) (b0_1 : σ → Int) (m : σ → Mem) (μ : σ → Nat) (step : ∀ x, I x → B54_0 (t2 x) (t3 x) (t4 x) (t50 x) (b0_0 x) (b0_1 x) (m x) R (fun s' => ∃ y, I y ∧ μ y < μ x ∧ Weak KK 103 0 s' (h54_0 (t2 y) (t3 y) (t4 y) (t50 y) (b0_0 y) (b0_1 y) (m y)))) (x : σ) (hx : I x) {s : St} (hw : Weak KK 103 0 s (h54_0 (t2 x) (t3 x) (t4 x) (t50 x) (b0_0 x) (b0_1 x) (m x))) : Tri pg KK 103 0 (.loop c54_0) s (q54_0 R) :=
  Tri.weak hw (Tri.loops fol I (fun x => h54_0 (t2 x) (t3 x) (t4 x) (t50 x) (b0_0 x) (b0_1 x) (m x)) μ (fun x hx => (B54_0_eq (t2 x) (t3 x) (t4 x) (t50 x) (b0_0 x) (b0_1 x) (m x) R _).mpr (step x hx)) x hx)
noncomputable def F54 (a0_0 : Int) (a0_1 : Int) (R : AV → Mem → Prop) : Prop :=
bif (decide (a0_0 < (-2000000))) then (
retL R ((0, some ⟨[(intA a0_0), (intA a0_1)], 45⟩) :: []) [some (intA (0)), some (intA (4))]) else (
bif (decide (a0_0 > (2000000))) then (
retL R ((0, some ⟨[(intA a0_0), (intA a0_1)], 45⟩) :: []) [some (intA (0)), some (intA (4))]) else (
bif (decide (a0_1 < (-2000000))) then (
retL R ((0, some ⟨[(intA a0_0), (intA a0_1)], 45⟩) :: []) [some (intA (0)), some (intA (4))]) else (
bif (decide (a0_1 > (2000000))) then (
retL R ((0, some ⟨[(intA a0_0), (intA a0_1)], 45⟩) :: []) [some (intA (0)), some (intA (4))]) else (
bif (a0_0 == (0)) then (
bif (a0_1 == (0)) then (
retL R ((0, some ⟨[(intA a0_0), (intA a0_1)], 45⟩) :: []) [some (intA (0)), some (intA (10))]) else (
opP (opA pg (.convert 3 127 (.tmp 0)) 127 [(intA a0_0)] (mget ((0, some ⟨[(intA a0_0), (intA a0_1)], 45⟩) :: [])) 33) fun v0 =>
exF v0 fun r1 =>
opP (opA pg (.convert 3 127 (.tmp 0)) 127 [(intA a0_1)] (mget ((0, some ⟨[(intA a0_0), (intA a0_1)], 45⟩) :: [])) 36) fun v2 =>
exF v2 fun r3 =>
callQ pg KK.gl ((0, some ⟨[(intA a0_0), (intA a0_1)], 45⟩) :: []) 74 [(AV.sc (.float .f64 r1)), (AV.sc (.float .f64 r3))] fun v4 =>
exF v4 fun r5 =>
opP (opA pg (.binOp .mul 127 (.tmp 0) (.tmp 1) 127) 127 [(AV.sc (.float .f64 r5)), (AV.sc (.float .f64 4656722014701092864))] (mget ((0, some ⟨[(intA a0_0), (intA a0_1)], 45⟩) :: [])) 101) fun v6 =>
exF v6 fun r7 =>
opP (opA pg (.binOp .quo 127 (.tmp 0) (.tmp 1) 127) 127 [(AV.sc (.float .f64 r7)), (AV.sc (.float .f64 4614256656552045848))] (mget ((0, some ⟨[(intA a0_0), (intA a0_1)], 45⟩) :: [])) 102) fun v8 =>
exF v8 fun r9 =>
callQ pg KK.gl ((0, some ⟨[(intA a0_0), (intA a0_1)], 45⟩) :: []) 73 [(AV.sc (.float .f64 r9))] fun v10 =>
exF v10 fun r11 =>
opP (opA pg (.convert 127 3 (.tmp 0)) 3 [(AV.sc (.float .f64 r11))] (mget ((0, some ⟨[(intA a0_0), (intA a0_1)], 45⟩) :: [])) 167) fun v12 =>
ex_i64 v12 fun z13 =>
Tri pg KK 103 0 (.loop c54_0) ⟨[(0, (AV.agg [(intA a0_0), (intA a0_1)])), (1, (AV.ptr 0 0)), (2, (intA (0))), (3, (intA (0))), (12, (AV.ptr 0 0)), (13, (intA a0_0)), (14, (boolA (decide (a0_0 < (-2000000))))), (15, (boolA false)), (16, (AV.ptr 0 0)), (17, (intA a0_0)), (18, (boolA (decide (a0_0 > (2000000))))), (19, (boolA (decide (a0_0 > (2000000))))), (20, (boolA false)), (21, (AV.ptr 0 1)), (22, (intA a0_1)), (23, (boolA (decide (a0_1 < (-2000000))))), (24, (boolA (decide (a0_1 < (-2000000))))), (25, (boolA false)), (26, (AV.ptr 0 1)), (27, (intA a0_1)), (28, (boolA (decide (a0_1 > (2000000))))), (29, (boolA (decide (a0_1 > (2000000))))), (11, (boolA (decide (a0_1 > (2000000))))), (31, (AV.ptr 0 0)), (32, (intA a0_0)), (33, (boolA (a0_0 == (0)))), (34, (boolA true)), (35, (AV.ptr 0 1)), (36, (intA a0_1)), (37, (boolA (a0_1 == (0)))), (38, (boolA (a0_1 == (0)))), (30, (boolA (a0_1 == (0)))), (39, (AV.ptr 0 0)), (40, (intA a0_0)), (41, (AV.sc (.float .f64 r1))), (42, (AV.ptr 0 1)), (43, (intA a0_1)), (44, (AV.sc (.float .f64 r3))), (45, (AV.sc (.float .f64 r5))), (46, (AV.sc (.float .f64 r7))), (47, (AV.sc (.float .f64 r9))), (48, (AV.sc (.float .f64 r11))), (49, (intA z13)), (4, (intA z13)), (50, (intA (0)))], ((0, some ⟨[(intA a0_0), (intA a0_1)], 45⟩) :: []), 170⟩ (q54_0 R))) else (
opP (opA pg (.convert 3 127 (.tmp 0)) 127 [(intA a0_0)] (mget ((0, some ⟨[(intA a0_0), (intA a0_1)], 45⟩) :: [])) 30) fun v50 =>
exF v50 fun r51 =>
opP (opA pg (.convert 3 127 (.tmp 0)) 127 [(intA a0_1)] (mget ((0, some ⟨[(intA a0_0), (intA a0_1)], 45⟩) :: [])) 33) fun v52 =>
exF v52 fun r53 =>
callQ pg KK.gl ((0, some ⟨[(intA a0_0), (intA a0_1)], 45⟩) :: []) 74 [(AV.sc (.float .f64 r51)), (AV.sc (.float .f64 r53))] fun v54 =>
exF v54 fun r55 =>
opP (opA pg (.binOp .mul 127 (.tmp 0) (.tmp 1) 127) 127 [(AV.sc (.float .f64 r55)), (AV.sc (.float .f64 4656722014701092864))] (mget ((0, some ⟨[(intA a0_0), (intA a0_1)], 45⟩) :: [])) 98) fun v56 =>
exF v56 fun r57 =>
opP (opA pg (.binOp .quo 127 (.tmp 0) (.tmp 1) 127) 127 [(AV.sc (.float .f64 r57)), (AV.sc (.float .f64 4614256656552045848))] (mget ((0, some ⟨[(intA a0_0), (intA a0_1)], 45⟩) :: [])) 99) fun v58 =>
exF v58 fun r59 =>
callQ pg KK.gl ((0, some ⟨[(intA a0_0), (intA a0_1)], 45⟩) :: []) 73 [(AV.sc (.float .f64 r59))] fun v60 =>
exF v60 fun r61 =>
opP (opA pg (.convert 127 3 (.tmp 0)) 3 [(AV.sc (.float .f64 r61))] (mget ((0, some ⟨[(intA a0_0), (intA a0_1)], 45⟩) :: [])) 164) fun v62 =>
ex_i64 v62 fun z63 =>
Tri pg KK 103 0 (.loop c54_0) ⟨[(0, (AV.agg [(intA a0_0), (intA a0_1)])), (1, (AV.ptr 0 0)), (2, (intA (0))), (3, (intA (0))), (12, (AV.ptr 0 0)), (13, (intA a0_0)), (14, (boolA (decide (a0_0 < (-2000000))))), (15, (boolA false)), (16, (AV.ptr 0 0)), (17, (intA a0_0)), (18, (boolA (decide (a0_0 > (2000000))))), (19, (boolA (decide (a0_0 > (2000000))))), (20, (boolA false)), (21, (AV.ptr 0 1)), (22, (intA a0_1)), (23, (boolA (decide (a0_1 < (-2000000))))), (24, (boolA (decide (a0_1 < (-2000000))))), (25, (boolA false)), (26, (AV.ptr 0 1)), (27, (intA a0_1)), (28, (boolA (decide (a0_1 > (2000000))))), (29, (boolA (decide (a0_1 > (2000000))))), (11, (boolA (decide (a0_1 > (2000000))))), (31, (AV.ptr 0 0)), (32, (intA a0_0)), (33, (boolA (a0_0 == (0)))), (34, (boolA false)), (35, (AV.tup [])), (36, (AV.tup [])), (37, (AV.tup [])), (38, (boolA false)), (30, (boolA false)), (39, (AV.ptr 0 0)), (40, (intA a0_0)), (41, (AV.sc (.float .f64 r51))), (42, (AV.ptr 0 1)), (43, (intA a0_1)), (44, (AV.sc (.float .f64 r53))), (45, (AV.sc (.float .f64 r55))), (46, (AV.sc (.float .f64 r57))), (47, (AV.sc (.float .f64 r59))), (48, (AV.sc (.float .f64 r61))), (49, (intA z63)), (4, (intA z63)), (50, (intA (0)))], ((0, some ⟨[(intA a0_0), (intA a0_1)], 45⟩) :: []), 167⟩ (q54_0 R))))))
theorem F54_own (a0_0 : Int) (a0_1 : Int) (R : AV → Mem → Prop) (h : F54 a0_0 a0_1 R) : Own pg KK.gl 54 [(AV.agg [(intA a0_0), (intA a0_1)])] R := own_of_F fol Tryz.func54 (code := c54) (by kernel_rfl) (by kernel_rfl) (by kernel_rfl) (X := F54 a0_0 a0_1 R) (by kernel_rfl) h
/- skyway/chart.Name -/
noncomputable def c51 : Code := ((Tryz.f51).body).getD .skip
noncomputable def q51 (R : AV → Mem → Prop) : AExit → St → Prop := retQ pg Tryz.f51 R
noncomputable def c51_0 : Code := loopB c51 0
noncomputable def q51_0 (R : AV → Mem → Prop) : AExit → St → Prop := contW pg KK 41 0 c51 0 (q51 R)
noncomputable def qq51_0 (R : AV → Mem → Prop) (N0 : St → Prop) : AExit → St → Prop := thenQ N0 (q51_0 R)
def h51_0 (t2 : Bool) (t14 : AV) (t15 : Int) (t16 : Int) (m : Mem) : St := ⟨[(2, (boolA t2)), (14, t14), (15, (intA t15)), (16, (intA t16))], m, 100000⟩
noncomputable def B51_0 (t2 : Bool) (t14 : AV) (t15 : Int) (t16 : Int) (m : Mem) (R : AV → Mem → Prop) (N0 : St → Prop) : Prop :=
bif (decide (t16 < t15)) then (
opP (idxS 1 t14 (intA t16)) fun v7 =>
opP (ldS (mget m) v7) fun v8 =>
ex_u8 v8 fun z9 =>
bif (decide (z9 ≥ (65))) then (
bif (decide (z9 ≤ (90))) then (
N0 ⟨[(2, (boolA t2)), (14, t14), (15, (intA t15)), (16, (intA (IntKind.wrap .i64 (t16 + (1))))), (17, (boolA (decide (t16 < t15)))), (18, (intA t16)), (19, v7), (20, (AV.sc (.int .u8 z9))), (3, (intA t16)), (4, (AV.sc (.int .u8 z9))), (21, (AV.sc (.int .u8 z9))), (22, (boolA (decide (z9 ≥ (65))))), (23, (boolA true)), (24, (AV.sc (.int .u8 z9))), (25, (boolA (decide (z9 ≤ (90))))), (26, (boolA (decide (z9 ≤ (90))))), (27, (boolA true)), (28, (AV.tup [])), (29, (AV.tup [])), (30, (AV.tup [])), (31, (AV.tup [])), (32, (AV.tup [])), (33, (AV.tup [])), (34, (AV.tup [])), (35, (AV.tup [])), (36, (AV.tup [])), (37, (AV.tup [])), (38, (boolA true)), (39, (boolA false)), (40, (intA (IntKind.wrap .i64 (t16 + (1)))))], m, 100017⟩) else (
bif (decide (t16 > (0))) then (
bif (decide (z9 ≥ (48))) then (
bif (!(decide (z9 ≤ (57)))) then (
retL R m [some (boolA false)]) else (
N0 ⟨[(2, (boolA t2)), (14, t14), (15, (intA t15)), (16, (intA (IntKind.wrap .i64 (t16 + (1))))), (17, (boolA (decide (t16 < t15)))), (18, (intA t16)), (19, v7), (20, (AV.sc (.int .u8 z9))), (3, (intA t16)), (4, (AV.sc (.int .u8 z9))), (21, (AV.sc (.int .u8 z9))), (22, (boolA (decide (z9 ≥ (65))))), (23, (boolA true)), (24, (AV.sc (.int .u8 z9))), (25, (boolA (decide (z9 ≤ (90))))), (26, (boolA (decide (z9 ≤ (90))))), (27, (boolA false)), (28, (intA t16)), (29, (boolA (decide (t16 > (0))))), (30, (boolA true)), (31, (AV.sc (.int .u8 z9))), (32, (boolA (decide (z9 ≥ (48))))), (33, (boolA (decide (z9 ≥ (48))))), (34, (boolA true)), (35, (AV.sc (.int .u8 z9))), (36, (boolA (decide (z9 ≤ (57))))), (37, (boolA (decide (z9 ≤ (57))))), (38, (boolA (decide (z9 ≤ (57))))), (39, (boolA (!(decide (z9 ≤ (57)))))), (40, (intA (IntKind.wrap .i64 (t16 + (1)))))], m, 100027⟩)) else (
retL R m [some (boolA false)])) else (
retL R m [some (boolA false)]))) else (
bif (decide (t16 > (0))) then (
bif (decide (z9 ≥ (48))) then (
bif (!(decide (z9 ≤ (57)))) then (
retL R m [some (boolA false)]) else (
N0 ⟨[(2, (boolA t2)), (14, t14), (15, (intA t15)), (16, (intA (IntKind.wrap .i64 (t16 + (1))))), (17, (boolA (decide (t16 < t15)))), (18, (intA t16)), (19, v7), (20, (AV.sc (.int .u8 z9))), (3, (intA t16)), (4, (AV.sc (.int .u8 z9))), (21, (AV.sc (.int .u8 z9))), (22, (boolA (decide (z9 ≥ (65))))), (23, (boolA false)), (24, (AV.tup [])), (25, (AV.tup [])), (26, (boolA false)), (27, (boolA false)), (28, (intA t16)), (29, (boolA (decide (t16 > (0))))), (30, (boolA true)), (31, (AV.sc (.int .u8 z9))), (32, (boolA (decide (z9 ≥ (48))))), (33, (boolA (decide (z9 ≥ (48))))), (34, (boolA true)), (35, (AV.sc (.int .u8 z9))), (36, (boolA (decide (z9 ≤ (57))))), (37, (boolA (decide (z9 ≤ (57))))), (38, (boolA (decide (z9 ≤ (57))))), (39, (boolA (!(decide (z9 ≤ (57)))))), (40, (intA (IntKind.wrap .i64 (t16 + (1)))))], m, 100025⟩)) else (
retL R m [some (boolA false)])) else (
retL R m [some (boolA false)]))) else (
retL R m [some (boolA true)])
theorem B51_0_eq (t2 : Bool) (t14 : AV) (t15 : Int) (t16 : Int) (m : Mem) (R : AV → Mem → Prop) (N0 : St → Prop) : W pg KK 41 0 c51_0 (h51_0 t2 t14 t15 t16 m) (qq51_0 R N0) = B51_0 t2 t14 t15 t16 m R N0 := by kernel_rfl
theorem L51_0 (R : AV → Mem → Prop) {σ : Type} (I : σ → Prop) (t2 : σ → Bool) (t14 : σ → AV) (t15 : σ → Int) (t16 : σ → Int) (m : σ → Mem) (μ : σ → Nat) (step : ∀ x, I x → B51_0 (t2 x) (t14 x) (t15 x) (t16 x) (m x) R (fun s' => ∃ y, I y ∧ μ y < μ x ∧ Weak KK 41 0 s' (h51_0 (t2 y) (t14 y) (t15 y) (t16 y) (m y)))) (x : σ) (hx : I x) {s : St} (hw : Weak KK 41 0 s (h51_0 (t2 x) (t14 x) (t15 x) (t16 x) (m x))) : Tri pg KK 41 0 (.loop c51_0) s (q51_0 R) :=
  Tri.weak hw (Tri.loops fol I (fun x => h51_0 (t2 x) (t14 x) (t15 x) (t16 x) (m x)) μ (fun x hx => (B51_0_eq (t2 x) (t14 x) (t15 x) (t16 x) (m x) R _).mpr (step x hx)) x hx)
noncomputable def F51 (a0 : ByteArray) (R : AV → Mem → Prop) : Prop :=
opP (opA pg (.call ⟨.builtin .len, #[.tmp 0], #[9]⟩) 3 [(AV.sc (.string a0))] (mget []) 2) fun v0 =>
ex_i64 v0 fun z1 =>
bif (decide (z1 < (1))) then (
retL R [] [some (boolA false)]) else (
opP (opA pg (.call ⟨.builtin .len, #[.tmp 0], #[9]⟩) 3 [(AV.sc (.string a0))] (mget []) 6) fun v2 =>
ex_i64 v2 fun z3 =>
bif (decide (z3 > (8))) then (
retL R [] [some (boolA false)]) else (
opP (opA pg (.convert 9 120 (.tmp 0)) 120 [(AV.sc (.string a0))] (mget []) 10) fun v4 =>
opP (lenS v4) fun v5 =>
ex_i64 v5 fun z6 =>
Tri pg KK 41 0 (.loop c51_0) ⟨[(0, (AV.sc (.string a0))), (2, (boolA false)), (5, (AV.sc (.string a0))), (6, (intA z1)), (7, (boolA (decide (z1 < (1))))), (8, (boolA false)), (9, (AV.sc (.string a0))), (10, (intA z3)), (11, (boolA (decide (z3 > (8))))), (12, (boolA (decide (z3 > (8))))), (13, (AV.sc (.string a0))), (14, v4), (15, (intA z6)), (16, (intA (0)))], [], 13⟩ (q51_0 R)))
theorem F51_own (a0 : ByteArray) (R : AV → Mem → Prop) (h : F51 a0 R) : Own pg KK.gl 51 [(AV.sc (.string a0))] R := own_of_F fol Tryz.func51 (code := c51) (by kernel_rfl) (by kernel_rfl) (by kernel_rfl) (X := F51 a0 R) (by kernel_rfl) h
/- skyway/aircraft.Check$1 -/
noncomputable def c50 : Code := ((Tryz.f50).body).getD .skip
noncomputable def q50 (R : AV → Mem → Prop) : AExit → St → Prop := retQ pg Tryz.f50 R
noncomputable def F50 (a0 : Int) (a1 : Int) (R : AV → Mem → Prop) : Prop :=
bif (decide (a0 < (1))) then (
retL R [] [some (boolA true)]) else (
retL R [] [some (boolA (decide (a0 > a1)))])
theorem F50_own (a0 : Int) (a1 : Int) (R : AV → Mem → Prop) (h : F50 a0 a1 R) : Own pg KK.gl 50 [(intA a0), (intA a1)] R := own_of_F fol Tryz.func50 (code := c50) (by kernel_rfl) (by kernel_rfl) (by kernel_rfl) (X := F50 a0 a1 R) (by kernel_rfl) h
/- skyway/aircraft.Check -/
noncomputable def c25 : Code := ((Tryz.f25).body).getD .skip
noncomputable def q25 (R : AV → Mem → Prop) : AExit → St → Prop := retQ pg Tryz.f25 R
noncomputable def F25 (a0_0 : ByteArray) (a0_1 : Int) (a0_2 : Int) (a0_3 : Int) (a0_4 : Int) (a0_5 : Int) (a0_6 : Int) (R : AV → Mem → Prop) : Prop :=
callQ pg KK.gl ((0, some ⟨[(AV.sc (.string a0_0)), (intA a0_1), (intA a0_2), (intA a0_3), (intA a0_4), (intA a0_5), (intA a0_6)], 25⟩) :: []) 51 [(AV.sc (.string a0_0))] fun v0 =>
exB v0 fun b1 =>
bif (!b1) then (
retL R ((0, some ⟨[(AV.sc (.string a0_0)), (intA a0_1), (intA a0_2), (intA a0_3), (intA a0_4), (intA a0_5), (intA a0_6)], 25⟩) :: []) [some (intA (5))]) else (
bif (decide (a0_1 < (0))) then (
retL R ((0, some ⟨[(AV.sc (.string a0_0)), (intA a0_1), (intA a0_2), (intA a0_3), (intA a0_4), (intA a0_5), (intA a0_6)], 25⟩) :: []) [some (intA (1))]) else (
bif (decide (a0_1 > (3))) then (
retL R ((0, some ⟨[(AV.sc (.string a0_0)), (intA a0_1), (intA a0_2), (intA a0_3), (intA a0_4), (intA a0_5), (intA a0_6)], 25⟩) :: []) [some (intA (1))]) else (
callQ pg KK.gl ((0, some ⟨[(AV.sc (.string a0_0)), (intA a0_1), (intA a0_2), (intA a0_3), (intA a0_4), (intA a0_5), (intA a0_6)], 25⟩) :: []) 50 [(intA a0_2), (intA (60000))] fun v2 =>
exB v2 fun b3 =>
bif b3 then (
retL R ((0, some ⟨[(AV.sc (.string a0_0)), (intA a0_1), (intA a0_2), (intA a0_3), (intA a0_4), (intA a0_5), (intA a0_6)], 25⟩) :: []) [some (intA (4))]) else (
callQ pg KK.gl ((0, some ⟨[(AV.sc (.string a0_0)), (intA a0_1), (intA a0_2), (intA a0_3), (intA a0_4), (intA a0_5), (intA a0_6)], 25⟩) :: []) 50 [(intA a0_3), (intA (200))] fun v4 =>
exB v4 fun b5 =>
bif b5 then (
retL R ((0, some ⟨[(AV.sc (.string a0_0)), (intA a0_1), (intA a0_2), (intA a0_3), (intA a0_4), (intA a0_5), (intA a0_6)], 25⟩) :: []) [some (intA (4))]) else (
callQ pg KK.gl ((0, some ⟨[(AV.sc (.string a0_0)), (intA a0_1), (intA a0_2), (intA a0_3), (intA a0_4), (intA a0_5), (intA a0_6)], 25⟩) :: []) 50 [(intA a0_4), (intA (200))] fun v6 =>
exB v6 fun b7 =>
bif b7 then (
retL R ((0, some ⟨[(AV.sc (.string a0_0)), (intA a0_1), (intA a0_2), (intA a0_3), (intA a0_4), (intA a0_5), (intA a0_6)], 25⟩) :: []) [some (intA (4))]) else (
callQ pg KK.gl ((0, some ⟨[(AV.sc (.string a0_0)), (intA a0_1), (intA a0_2), (intA a0_3), (intA a0_4), (intA a0_5), (intA a0_6)], 25⟩) :: []) 50 [(intA a0_5), (intA (400))] fun v8 =>
exB v8 fun b9 =>
bif b9 then (
retL R ((0, some ⟨[(AV.sc (.string a0_0)), (intA a0_1), (intA a0_2), (intA a0_3), (intA a0_4), (intA a0_5), (intA a0_6)], 25⟩) :: []) [some (intA (4))]) else (
callQ pg KK.gl ((0, some ⟨[(AV.sc (.string a0_0)), (intA a0_1), (intA a0_2), (intA a0_3), (intA a0_4), (intA a0_5), (intA a0_6)], 25⟩) :: []) 50 [(intA a0_6), (intA (400))] fun v10 =>
exB v10 fun b11 =>
bif b11 then (
retL R ((0, some ⟨[(AV.sc (.string a0_0)), (intA a0_1), (intA a0_2), (intA a0_3), (intA a0_4), (intA a0_5), (intA a0_6)], 25⟩) :: []) [some (intA (4))]) else (
bif (decide (a0_5 > a0_6)) then (
retL R ((0, some ⟨[(AV.sc (.string a0_0)), (intA a0_1), (intA a0_2), (intA a0_3), (intA a0_4), (intA a0_5), (intA a0_6)], 25⟩) :: []) [some (intA (3))]) else (
retL R ((0, some ⟨[(AV.sc (.string a0_0)), (intA a0_1), (intA a0_2), (intA a0_3), (intA a0_4), (intA a0_5), (intA a0_6)], 25⟩) :: []) [some (intA (0))])))))))))
theorem F25_own (a0_0 : ByteArray) (a0_1 : Int) (a0_2 : Int) (a0_3 : Int) (a0_4 : Int) (a0_5 : Int) (a0_6 : Int) (R : AV → Mem → Prop) (h : F25 a0_0 a0_1 a0_2 a0_3 a0_4 a0_5 a0_6 R) : Own pg KK.gl 25 [(AV.agg [(AV.sc (.string a0_0)), (intA a0_1), (intA a0_2), (intA a0_3), (intA a0_4), (intA a0_5), (intA a0_6)])] R := own_of_F fol Tryz.func25 (code := c25) (by kernel_rfl) (by kernel_rfl) (by kernel_rfl) (X := F25 a0_0 a0_1 a0_2 a0_3 a0_4 a0_5 a0_6 R) (by kernel_rfl) h
end Go.Proofs.YteaimbiojpjneaaGreatDoor
