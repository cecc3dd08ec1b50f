/- Functions of the program as conditions on their answers; printed by wip/Gen.lean.txt. -/
import Derived.Test.YtbbfpbngnkjkdaaDoorX1T
set_option linter.unusedVariables false
set_option maxRecDepth 100000
set_option maxHeartbeats 4000000
namespace Go.Proofs.YtbbfpbngnkjkdaaDoor
/- skyway/angle.Norm -/
noncomputable def c59 : Code := ((Tryd.f59).body).getD .skip
noncomputable def q59 (R : AV → Mem → Prop) : AExit → St → Prop := retQ pg Tryd.f59 R
noncomputable def F59 (a0 : Int) (R : AV → Mem → Prop) : Prop :=
retL R [] [some (intA (Int.tmod (IntKind.wrap .i64 ((Int.tmod a0 (4096)) + (4096))) (4096)))]
theorem F59_own (a0 : Int) (R : AV → Mem → Prop) (h : F59 a0 R) : Own pg KK.gl 59 [(intA a0)] R := own_of_F fol Tryd.func59 (code := c59) (by kernel_rfl) (by kernel_rfl) (by kernel_rfl) (X := F59 a0 R) (by kernel_rfl) h
/- math.IsNaN -/
noncomputable def c66 : Code := ((Tryd.f66).body).getD .skip
noncomputable def q66 (R : AV → Mem → Prop) : AExit → St → Prop := retQ pg Tryd.f66 R
noncomputable def F66 (a0 : Nat) (R : AV → Mem → Prop) : Prop :=
fcm pg .neq 94 4 a0 a0 3 fun b1 =>
retL R [] [some (boolA b1)]
theorem F66_own (a0 : Nat) (R : AV → Mem → Prop) (h : F66 a0 R) : Own pg KK.gl 66 [(AV.sc (.float .f64 a0))] R := own_of_F fol Tryd.func66 (code := c66) (by kernel_rfl) (by kernel_rfl) (by kernel_rfl) (X := F66 a0 R) (by kernel_rfl) h
/- math.Abs -/
noncomputable def c70 : Code := ((Tryd.f70).body).getD .skip
noncomputable def q70 (R : AV → Mem → Prop) : AExit → St → Prop := retQ pg Tryd.f70 R
noncomputable def F70 (a0 : Nat) (R : AV → Mem → Prop) : Prop :=
callQ pg KK.gl [] 62 [(AV.sc (.float .f64 a0))] fun v0 =>
ex_u64 v0 fun z1 =>
opP (opA pg (.binOp .andNot 97 (.tmp 0) (.tmp 1) 97) 97 [(AV.sc (.int .u64 z1)), (AV.sc (.int .u64 (9223372036854775808)))] (mget []) 66) fun v2 =>
ex_u64 v2 fun z3 =>
callQ pg KK.gl [] 63 [(AV.sc (.int .u64 z3))] fun v4 =>
exF v4 fun r5 =>
retL R [] [some (AV.sc (.float .f64 r5))]
theorem F70_own (a0 : Nat) (R : AV → Mem → Prop) (h : F70 a0 R) : Own pg KK.gl 70 [(AV.sc (.float .f64 a0))] R := own_of_F fol Tryd.func70 (code := c70) (by kernel_rfl) (by kernel_rfl) (by kernel_rfl) (X := F70 a0 R) (by kernel_rfl) h
/- math.IsInf -/
noncomputable def c67 : Code := ((Tryd.f67).body).getD .skip
noncomputable def q67 (R : AV → Mem → Prop) : AExit → St → Prop := retQ pg Tryd.f67 R
noncomputable def F67 (a0 : Nat) (a1 : Int) (R : AV → Mem → Prop) : Prop :=
bif (a1 == (0)) then (
callQ pg KK.gl [] 70 [(AV.sc (.float .f64 a0))] fun v0 =>
exF v0 fun r1 =>
fcm pg .gtr 94 4 r1 9218868437227405311 70 fun b3 =>
retL R [] [some (boolA b3)]) else (
bif (decide (a1 < (0))) then (
fng pg 94 a0 6 fun r5 =>
fcm pg .gtr 94 4 r5 9218868437227405311 9 fun b7 =>
retL R [] [some (boolA b7)]) else (
fcm pg .gtr 94 4 a0 9218868437227405311 6 fun b9 =>
retL R [] [some (boolA b9)]))
theorem F67_own (a0 : Nat) (a1 : Int) (R : AV → Mem → Prop) (h : F67 a0 a1 R) : Own pg KK.gl 67 [(AV.sc (.float .f64 a0)), (intA a1)] R := own_of_F fol Tryd.func67 (code := c67) (by kernel_rfl) (by kernel_rfl) (by kernel_rfl) (X := F67 a0 a1 R) (by kernel_rfl) h
/- math.NaN -/
noncomputable def c68 : Code := ((Tryd.f68).body).getD .skip
noncomputable def q68 (R : AV → Mem → Prop) : AExit → St → Prop := retQ pg Tryd.f68 R
noncomputable def F68 (R : AV → Mem → Prop) : Prop :=
callQ pg KK.gl [] 63 [(AV.sc (.int .u64 (9221120237041090561)))] fun v0 =>
exF v0 fun r1 =>
retL R [] [some (AV.sc (.float .f64 r1))]
theorem F68_own (R : AV → Mem → Prop) (h : F68  R) : Own pg KK.gl 68 [] R := own_of_F fol Tryd.func68 (code := c68) (by kernel_rfl) (by kernel_rfl) (by kernel_rfl) (X := F68  R) (by kernel_rfl) h
/- math.sin -/
noncomputable def c65 : Code := ((Tryd.f65).body).getD .skip
noncomputable def q65 (R : AV → Mem → Prop) : AExit → St → Prop := retQ pg Tryd.f65 R
noncomputable def F65 (a0 : Nat) (R : AV → Mem → Prop) : Prop :=
fcm pg .eql 94 4 a0 0 2 fun b1 =>
bif b1 then (
retL R [] [some (AV.sc (.float .f64 a0))]) else (
callQ pg KK.gl [] 66 [(AV.sc (.float .f64 a0))] fun v2 =>
exB v2 fun b3 =>
bif b3 then (
retL R [] [some (AV.sc (.float .f64 a0))]) else (
callQ pg KK.gl [] 67 [(AV.sc (.float .f64 a0)), (intA (0))] fun v4 =>
exB v4 fun b5 =>
bif b5 then (
callQ pg KK.gl [] 68 [] fun v6 =>
exF v6 fun r7 =>
retL R [] [some (AV.sc (.float .f64 r7))]) else (
fcm pg .lss 94 4 a0 0 139 fun b9 =>
bif b9 then (
fng pg 94 a0 141 fun r11 =>
fcm pg .geq 94 4 r11 4737786807993761792 148 fun b13 =>
bif b13 then (
callQ pg KK.gl [] 69 [(AV.sc (.float .f64 r11))] fun v14 =>
exT2 v14 fun c15 c16 =>
ex_u64 c15 fun z17 =>
exF c16 fun r18 =>
bif (decide (z17 > (3))) then (
fop pg .mul 94 r18 r18 229 fun r20 =>
bif ((IntKind.wrap .u64 (z17 - (4))) == (1)) then (
fop pg .mul 94 4602678819172646912 r20 236 fun r22 =>
fop pg .sub 94 4607182418800017408 r22 237 fun r24 =>
fop pg .mul 94 r20 r20 240 fun r26 =>
fld 6 1 (gval 3) (0) fun r29 =>
fop pg .mul 94 r29 r20 244 fun r31 =>
fld 6 1 (gval 3) (1) fun r34 =>
fop pg .add 94 r31 r34 247 fun r36 =>
fop pg .mul 94 r36 r20 249 fun r38 =>
fld 6 1 (gval 3) (2) fun r41 =>
fop pg .add 94 r38 r41 252 fun r43 =>
fop pg .mul 94 r43 r20 254 fun r45 =>
fld 6 1 (gval 3) (3) fun r48 =>
fop pg .add 94 r45 r48 257 fun r50 =>
fop pg .mul 94 r50 r20 259 fun r52 =>
fld 6 1 (gval 3) (4) fun r55 =>
fop pg .add 94 r52 r55 262 fun r57 =>
fop pg .mul 94 r57 r20 264 fun r59 =>
fld 6 1 (gval 3) (5) fun r62 =>
fop pg .add 94 r59 r62 267 fun r64 =>
fop pg .mul 94 r26 r64 268 fun r66 =>
fop pg .add 94 r24 r66 269 fun r68 =>
retL R [] [some (AV.sc (.float .f64 r68))]) else (
bif ((IntKind.wrap .u64 (z17 - (4))) == (2)) then (
fop pg .mul 94 4602678819172646912 r20 238 fun r70 =>
fop pg .sub 94 4607182418800017408 r70 239 fun r72 =>
fop pg .mul 94 r20 r20 242 fun r74 =>
fld 6 1 (gval 3) (0) fun r77 =>
fop pg .mul 94 r77 r20 246 fun r79 =>
fld 6 1 (gval 3) (1) fun r82 =>
fop pg .add 94 r79 r82 249 fun r84 =>
fop pg .mul 94 r84 r20 251 fun r86 =>
fld 6 1 (gval 3) (2) fun r89 =>
fop pg .add 94 r86 r89 254 fun r91 =>
fop pg .mul 94 r91 r20 256 fun r93 =>
fld 6 1 (gval 3) (3) fun r96 =>
fop pg .add 94 r93 r96 259 fun r98 =>
fop pg .mul 94 r98 r20 261 fun r100 =>
fld 6 1 (gval 3) (4) fun r103 =>
fop pg .add 94 r100 r103 264 fun r105 =>
fop pg .mul 94 r105 r20 266 fun r107 =>
fld 6 1 (gval 3) (5) fun r110 =>
fop pg .add 94 r107 r110 269 fun r112 =>
fop pg .mul 94 r74 r112 270 fun r114 =>
fop pg .add 94 r72 r114 271 fun r116 =>
retL R [] [some (AV.sc (.float .f64 r116))]) else (
fop pg .mul 94 r18 r20 240 fun r118 =>
fld 6 1 (gval 4) (0) fun r121 =>
fop pg .mul 94 r121 r20 244 fun r123 =>
fld 6 1 (gval 4) (1) fun r126 =>
fop pg .add 94 r123 r126 247 fun r128 =>
fop pg .mul 94 r128 r20 249 fun r130 =>
fld 6 1 (gval 4) (2) fun r133 =>
fop pg .add 94 r130 r133 252 fun r135 =>
fop pg .mul 94 r135 r20 254 fun r137 =>
fld 6 1 (gval 4) (3) fun r140 =>
fop pg .add 94 r137 r140 257 fun r142 =>
fop pg .mul 94 r142 r20 259 fun r144 =>
fld 6 1 (gval 4) (4) fun r147 =>
fop pg .add 94 r144 r147 262 fun r149 =>
fop pg .mul 94 r149 r20 264 fun r151 =>
fld 6 1 (gval 4) (5) fun r154 =>
fop pg .add 94 r151 r154 267 fun r156 =>
fop pg .mul 94 r118 r156 268 fun r158 =>
fop pg .add 94 r18 r158 269 fun r160 =>
retL R [] [some (AV.sc (.float .f64 r160))]))) else (
fop pg .mul 94 r18 r18 223 fun r162 =>
bif (z17 == (1)) then (
fop pg .mul 94 4602678819172646912 r162 230 fun r164 =>
fop pg .sub 94 4607182418800017408 r164 231 fun r166 =>
fop pg .mul 94 r162 r162 234 fun r168 =>
fld 6 1 (gval 3) (0) fun r171 =>
fop pg .mul 94 r171 r162 238 fun r173 =>
fld 6 1 (gval 3) (1) fun r176 =>
fop pg .add 94 r173 r176 241 fun r178 =>
fop pg .mul 94 r178 r162 243 fun r180 =>
fld 6 1 (gval 3) (2) fun r183 =>
fop pg .add 94 r180 r183 246 fun r185 =>
fop pg .mul 94 r185 r162 248 fun r187 =>
fld 6 1 (gval 3) (3) fun r190 =>
fop pg .add 94 r187 r190 251 fun r192 =>
fop pg .mul 94 r192 r162 253 fun r194 =>
fld 6 1 (gval 3) (4) fun r197 =>
fop pg .add 94 r194 r197 256 fun r199 =>
fop pg .mul 94 r199 r162 258 fun r201 =>
fld 6 1 (gval 3) (5) fun r204 =>
fop pg .add 94 r201 r204 261 fun r206 =>
fop pg .mul 94 r168 r206 262 fun r208 =>
fop pg .add 94 r166 r208 263 fun r210 =>
fng pg 94 r210 267 fun r212 =>
retL R [] [some (AV.sc (.float .f64 r212))]) else (
bif (z17 == (2)) then (
fop pg .mul 94 4602678819172646912 r162 232 fun r214 =>
fop pg .sub 94 4607182418800017408 r214 233 fun r216 =>
fop pg .mul 94 r162 r162 236 fun r218 =>
fld 6 1 (gval 3) (0) fun r221 =>
fop pg .mul 94 r221 r162 240 fun r223 =>
fld 6 1 (gval 3) (1) fun r226 =>
fop pg .add 94 r223 r226 243 fun r228 =>
fop pg .mul 94 r228 r162 245 fun r230 =>
fld 6 1 (gval 3) (2) fun r233 =>
fop pg .add 94 r230 r233 248 fun r235 =>
fop pg .mul 94 r235 r162 250 fun r237 =>
fld 6 1 (gval 3) (3) fun r240 =>
fop pg .add 94 r237 r240 253 fun r242 =>
fop pg .mul 94 r242 r162 255 fun r244 =>
fld 6 1 (gval 3) (4) fun r247 =>
fop pg .add 94 r244 r247 258 fun r249 =>
fop pg .mul 94 r249 r162 260 fun r251 =>
fld 6 1 (gval 3) (5) fun r254 =>
fop pg .add 94 r251 r254 263 fun r256 =>
fop pg .mul 94 r218 r256 264 fun r258 =>
fop pg .add 94 r216 r258 265 fun r260 =>
fng pg 94 r260 269 fun r262 =>
retL R [] [some (AV.sc (.float .f64 r262))]) else (
fop pg .mul 94 r18 r162 234 fun r264 =>
fld 6 1 (gval 4) (0) fun r267 =>
fop pg .mul 94 r267 r162 238 fun r269 =>
fld 6 1 (gval 4) (1) fun r272 =>
fop pg .add 94 r269 r272 241 fun r274 =>
fop pg .mul 94 r274 r162 243 fun r276 =>
fld 6 1 (gval 4) (2) fun r279 =>
fop pg .add 94 r276 r279 246 fun r281 =>
fop pg .mul 94 r281 r162 248 fun r283 =>
fld 6 1 (gval 4) (3) fun r286 =>
fop pg .add 94 r283 r286 251 fun r288 =>
fop pg .mul 94 r288 r162 253 fun r290 =>
fld 6 1 (gval 4) (4) fun r293 =>
fop pg .add 94 r290 r293 256 fun r295 =>
fop pg .mul 94 r295 r162 258 fun r297 =>
fld 6 1 (gval 4) (5) fun r300 =>
fop pg .add 94 r297 r300 261 fun r302 =>
fop pg .mul 94 r264 r302 262 fun r304 =>
fop pg .add 94 r18 r304 263 fun r306 =>
fng pg 94 r306 267 fun r308 =>
retL R [] [some (AV.sc (.float .f64 r308))])))) else (
fop pg .mul 94 r11 4608412980311869571 150 fun r310 =>
opP (opA pg (.convert 94 97 (.tmp 0)) 97 [(AV.sc (.float .f64 r310))] (mget []) 151) fun v311 =>
ex_u64 v311 fun z312 =>
opP (opA pg (.convert 97 94 (.tmp 0)) 94 [(AV.sc (.int .u64 z312))] (mget []) 154) fun v313 =>
exF v313 fun r314 =>
opP (opA pg (.binOp .and 97 (.tmp 0) (.tmp 1) 97) 97 [(AV.sc (.int .u64 z312)), (AV.sc (.int .u64 (1)))] (mget []) 157) fun v315 =>
ex_u64 v315 fun z316 =>
bif (z316 == (1)) then (
fop pg .add 94 r314 4607182418800017408 163 fun r318 =>
opP (opA pg (.binOp .and 97 (.tmp 0) (.tmp 1) 97) 97 [(AV.sc (.int .u64 (IntKind.wrap .u64 (z312 + (1))))), (AV.sc (.int .u64 (7)))] (mget []) 166) fun v319 =>
ex_u64 v319 fun z320 =>
fop pg .mul 94 r318 4605249456957292544 170 fun r322 =>
fop pg .sub 94 r11 r322 171 fun r324 =>
fop pg .mul 94 r318 4495793288086814720 173 fun r326 =>
fop pg .sub 94 r324 r326 174 fun r328 =>
fop pg .mul 94 r318 4388835458085048688 176 fun r330 =>
fop pg .sub 94 r328 r330 177 fun r332 =>
bif (decide (z320 > (3))) then (
fop pg .mul 94 r332 r332 189 fun r334 =>
bif ((IntKind.wrap .u64 (z320 - (4))) == (1)) then (
fop pg .mul 94 4602678819172646912 r334 196 fun r336 =>
fop pg .sub 94 4607182418800017408 r336 197 fun r338 =>
fop pg .mul 94 r334 r334 200 fun r340 =>
fld 6 1 (gval 3) (0) fun r343 =>
fop pg .mul 94 r343 r334 204 fun r345 =>
fld 6 1 (gval 3) (1) fun r348 =>
fop pg .add 94 r345 r348 207 fun r350 =>
fop pg .mul 94 r350 r334 209 fun r352 =>
fld 6 1 (gval 3) (2) fun r355 =>
fop pg .add 94 r352 r355 212 fun r357 =>
fop pg .mul 94 r357 r334 214 fun r359 =>
fld 6 1 (gval 3) (3) fun r362 =>
fop pg .add 94 r359 r362 217 fun r364 =>
fop pg .mul 94 r364 r334 219 fun r366 =>
fld 6 1 (gval 3) (4) fun r369 =>
fop pg .add 94 r366 r369 222 fun r371 =>
fop pg .mul 94 r371 r334 224 fun r373 =>
fld 6 1 (gval 3) (5) fun r376 =>
fop pg .add 94 r373 r376 227 fun r378 =>
fop pg .mul 94 r340 r378 228 fun r380 =>
fop pg .add 94 r338 r380 229 fun r382 =>
retL R [] [some (AV.sc (.float .f64 r382))]) else (
bif ((IntKind.wrap .u64 (z320 - (4))) == (2)) then (
fop pg .mul 94 4602678819172646912 r334 198 fun r384 =>
fop pg .sub 94 4607182418800017408 r384 199 fun r386 =>
fop pg .mul 94 r334 r334 202 fun r388 =>
fld 6 1 (gval 3) (0) fun r391 =>
fop pg .mul 94 r391 r334 206 fun r393 =>
fld 6 1 (gval 3) (1) fun r396 =>
fop pg .add 94 r393 r396 209 fun r398 =>
fop pg .mul 94 r398 r334 211 fun r400 =>
fld 6 1 (gval 3) (2) fun r403 =>
fop pg .add 94 r400 r403 214 fun r405 =>
fop pg .mul 94 r405 r334 216 fun r407 =>
fld 6 1 (gval 3) (3) fun r410 =>
fop pg .add 94 r407 r410 219 fun r412 =>
fop pg .mul 94 r412 r334 221 fun r414 =>
fld 6 1 (gval 3) (4) fun r417 =>
fop pg .add 94 r414 r417 224 fun r419 =>
fop pg .mul 94 r419 r334 226 fun r421 =>
fld 6 1 (gval 3) (5) fun r424 =>
fop pg .add 94 r421 r424 229 fun r426 =>
fop pg .mul 94 r388 r426 230 fun r428 =>
fop pg .add 94 r386 r428 231 fun r430 =>
retL R [] [some (AV.sc (.float .f64 r430))]) else (
fop pg .mul 94 r332 r334 200 fun r432 =>
fld 6 1 (gval 4) (0) fun r435 =>
fop pg .mul 94 r435 r334 204 fun r437 =>
fld 6 1 (gval 4) (1) fun r440 =>
fop pg .add 94 r437 r440 207 fun r442 =>
fop pg .mul 94 r442 r334 209 fun r444 =>
fld 6 1 (gval 4) (2) fun r447 =>
fop pg .add 94 r444 r447 212 fun r449 =>
fop pg .mul 94 r449 r334 214 fun r451 =>
fld 6 1 (gval 4) (3) fun r454 =>
fop pg .add 94 r451 r454 217 fun r456 =>
fop pg .mul 94 r456 r334 219 fun r458 =>
fld 6 1 (gval 4) (4) fun r461 =>
fop pg .add 94 r458 r461 222 fun r463 =>
fop pg .mul 94 r463 r334 224 fun r465 =>
fld 6 1 (gval 4) (5) fun r468 =>
fop pg .add 94 r465 r468 227 fun r470 =>
fop pg .mul 94 r432 r470 228 fun r472 =>
fop pg .add 94 r332 r472 229 fun r474 =>
retL R [] [some (AV.sc (.float .f64 r474))]))) else (
fop pg .mul 94 r332 r332 183 fun r476 =>
bif (z320 == (1)) then (
fop pg .mul 94 4602678819172646912 r476 190 fun r478 =>
fop pg .sub 94 4607182418800017408 r478 191 fun r480 =>
fop pg .mul 94 r476 r476 194 fun r482 =>
fld 6 1 (gval 3) (0) fun r485 =>
fop pg .mul 94 r485 r476 198 fun r487 =>
fld 6 1 (gval 3) (1) fun r490 =>
fop pg .add 94 r487 r490 201 fun r492 =>
fop pg .mul 94 r492 r476 203 fun r494 =>
fld 6 1 (gval 3) (2) fun r497 =>
fop pg .add 94 r494 r497 206 fun r499 =>
fop pg .mul 94 r499 r476 208 fun r501 =>
fld 6 1 (gval 3) (3) fun r504 =>
fop pg .add 94 r501 r504 211 fun r506 =>
fop pg .mul 94 r506 r476 213 fun r508 =>
fld 6 1 (gval 3) (4) fun r511 =>
fop pg .add 94 r508 r511 216 fun r513 =>
fop pg .mul 94 r513 r476 218 fun r515 =>
fld 6 1 (gval 3) (5) fun r518 =>
fop pg .add 94 r515 r518 221 fun r520 =>
fop pg .mul 94 r482 r520 222 fun r522 =>
fop pg .add 94 r480 r522 223 fun r524 =>
fng pg 94 r524 227 fun r526 =>
retL R [] [some (AV.sc (.float .f64 r526))]) else (
bif (z320 == (2)) then (
fop pg .mul 94 4602678819172646912 r476 192 fun r528 =>
fop pg .sub 94 4607182418800017408 r528 193 fun r530 =>
fop pg .mul 94 r476 r476 196 fun r532 =>
fld 6 1 (gval 3) (0) fun r535 =>
fop pg .mul 94 r535 r476 200 fun r537 =>
fld 6 1 (gval 3) (1) fun r540 =>
fop pg .add 94 r537 r540 203 fun r542 =>
fop pg .mul 94 r542 r476 205 fun r544 =>
fld 6 1 (gval 3) (2) fun r547 =>
fop pg .add 94 r544 r547 208 fun r549 =>
fop pg .mul 94 r549 r476 210 fun r551 =>
fld 6 1 (gval 3) (3) fun r554 =>
fop pg .add 94 r551 r554 213 fun r556 =>
fop pg .mul 94 r556 r476 215 fun r558 =>
fld 6 1 (gval 3) (4) fun r561 =>
fop pg .add 94 r558 r561 218 fun r563 =>
fop pg .mul 94 r563 r476 220 fun r565 =>
fld 6 1 (gval 3) (5) fun r568 =>
fop pg .add 94 r565 r568 223 fun r570 =>
fop pg .mul 94 r532 r570 224 fun r572 =>
fop pg .add 94 r530 r572 225 fun r574 =>
fng pg 94 r574 229 fun r576 =>
retL R [] [some (AV.sc (.float .f64 r576))]) else (
fop pg .mul 94 r332 r476 194 fun r578 =>
fld 6 1 (gval 4) (0) fun r581 =>
fop pg .mul 94 r581 r476 198 fun r583 =>
fld 6 1 (gval 4) (1) fun r586 =>
fop pg .add 94 r583 r586 201 fun r588 =>
fop pg .mul 94 r588 r476 203 fun r590 =>
fld 6 1 (gval 4) (2) fun r593 =>
fop pg .add 94 r590 r593 206 fun r595 =>
fop pg .mul 94 r595 r476 208 fun r597 =>
fld 6 1 (gval 4) (3) fun r600 =>
fop pg .add 94 r597 r600 211 fun r602 =>
fop pg .mul 94 r602 r476 213 fun r604 =>
fld 6 1 (gval 4) (4) fun r607 =>
fop pg .add 94 r604 r607 216 fun r609 =>
fop pg .mul 94 r609 r476 218 fun r611 =>
fld 6 1 (gval 4) (5) fun r614 =>
fop pg .add 94 r611 r614 221 fun r616 =>
fop pg .mul 94 r578 r616 222 fun r618 =>
fop pg .add 94 r332 r618 223 fun r620 =>
fng pg 94 r620 227 fun r622 =>
retL R [] [some (AV.sc (.float .f64 r622))])))) else (
opP (opA pg (.binOp .and 97 (.tmp 0) (.tmp 1) 97) 97 [(AV.sc (.int .u64 z312)), (AV.sc (.int .u64 (7)))] (mget []) 160) fun v623 =>
ex_u64 v623 fun z624 =>
fop pg .mul 94 r314 4605249456957292544 164 fun r626 =>
fop pg .sub 94 r11 r626 165 fun r628 =>
fop pg .mul 94 r314 4495793288086814720 167 fun r630 =>
fop pg .sub 94 r628 r630 168 fun r632 =>
fop pg .mul 94 r314 4388835458085048688 170 fun r634 =>
fop pg .sub 94 r632 r634 171 fun r636 =>
bif (decide (z624 > (3))) then (
fop pg .mul 94 r636 r636 183 fun r638 =>
bif ((IntKind.wrap .u64 (z624 - (4))) == (1)) then (
fop pg .mul 94 4602678819172646912 r638 190 fun r640 =>
fop pg .sub 94 4607182418800017408 r640 191 fun r642 =>
fop pg .mul 94 r638 r638 194 fun r644 =>
fld 6 1 (gval 3) (0) fun r647 =>
fop pg .mul 94 r647 r638 198 fun r649 =>
fld 6 1 (gval 3) (1) fun r652 =>
fop pg .add 94 r649 r652 201 fun r654 =>
fop pg .mul 94 r654 r638 203 fun r656 =>
fld 6 1 (gval 3) (2) fun r659 =>
fop pg .add 94 r656 r659 206 fun r661 =>
fop pg .mul 94 r661 r638 208 fun r663 =>
fld 6 1 (gval 3) (3) fun r666 =>
fop pg .add 94 r663 r666 211 fun r668 =>
fop pg .mul 94 r668 r638 213 fun r670 =>
fld 6 1 (gval 3) (4) fun r673 =>
fop pg .add 94 r670 r673 216 fun r675 =>
fop pg .mul 94 r675 r638 218 fun r677 =>
fld 6 1 (gval 3) (5) fun r680 =>
fop pg .add 94 r677 r680 221 fun r682 =>
fop pg .mul 94 r644 r682 222 fun r684 =>
fop pg .add 94 r642 r684 223 fun r686 =>
retL R [] [some (AV.sc (.float .f64 r686))]) else (
bif ((IntKind.wrap .u64 (z624 - (4))) == (2)) then (
fop pg .mul 94 4602678819172646912 r638 192 fun r688 =>
fop pg .sub 94 4607182418800017408 r688 193 fun r690 =>
fop pg .mul 94 r638 r638 196 fun r692 =>
fld 6 1 (gval 3) (0) fun r695 =>
fop pg .mul 94 r695 r638 200 fun r697 =>
fld 6 1 (gval 3) (1) fun r700 =>
fop pg .add 94 r697 r700 203 fun r702 =>
fop pg .mul 94 r702 r638 205 fun r704 =>
fld 6 1 (gval 3) (2) fun r707 =>
fop pg .add 94 r704 r707 208 fun r709 =>
fop pg .mul 94 r709 r638 210 fun r711 =>
fld 6 1 (gval 3) (3) fun r714 =>
fop pg .add 94 r711 r714 213 fun r716 =>
fop pg .mul 94 r716 r638 215 fun r718 =>
fld 6 1 (gval 3) (4) fun r721 =>
fop pg .add 94 r718 r721 218 fun r723 =>
fop pg .mul 94 r723 r638 220 fun r725 =>
fld 6 1 (gval 3) (5) fun r728 =>
fop pg .add 94 r725 r728 223 fun r730 =>
fop pg .mul 94 r692 r730 224 fun r732 =>
fop pg .add 94 r690 r732 225 fun r734 =>
retL R [] [some (AV.sc (.float .f64 r734))]) else (
fop pg .mul 94 r636 r638 194 fun r736 =>
fld 6 1 (gval 4) (0) fun r739 =>
fop pg .mul 94 r739 r638 198 fun r741 =>
fld 6 1 (gval 4) (1) fun r744 =>
fop pg .add 94 r741 r744 201 fun r746 =>
fop pg .mul 94 r746 r638 203 fun r748 =>
fld 6 1 (gval 4) (2) fun r751 =>
fop pg .add 94 r748 r751 206 fun r753 =>
fop pg .mul 94 r753 r638 208 fun r755 =>
fld 6 1 (gval 4) (3) fun r758 =>
fop pg .add 94 r755 r758 211 fun r760 =>
fop pg .mul 94 r760 r638 213 fun r762 =>
fld 6 1 (gval 4) (4) fun r765 =>
fop pg .add 94 r762 r765 216 fun r767 =>
fop pg .mul 94 r767 r638 218 fun r769 =>
fld 6 1 (gval 4) (5) fun r772 =>
fop pg .add 94 r769 r772 221 fun r774 =>
fop pg .mul 94 r736 r774 222 fun r776 =>
fop pg .add 94 r636 r776 223 fun r778 =>
retL R [] [some (AV.sc (.float .f64 r778))]))) else (
fop pg .mul 94 r636 r636 177 fun r780 =>
bif (z624 == (1)) then (
fop pg .mul 94 4602678819172646912 r780 184 fun r782 =>
fop pg .sub 94 4607182418800017408 r782 185 fun r784 =>
fop pg .mul 94 r780 r780 188 fun r786 =>
fld 6 1 (gval 3) (0) fun r789 =>
fop pg .mul 94 r789 r780 192 fun r791 =>
fld 6 1 (gval 3) (1) fun r794 =>
fop pg .add 94 r791 r794 195 fun r796 =>
fop pg .mul 94 r796 r780 197 fun r798 =>
fld 6 1 (gval 3) (2) fun r801 =>
fop pg .add 94 r798 r801 200 fun r803 =>
fop pg .mul 94 r803 r780 202 fun r805 =>
fld 6 1 (gval 3) (3) fun r808 =>
fop pg .add 94 r805 r808 205 fun r810 =>
fop pg .mul 94 r810 r780 207 fun r812 =>
fld 6 1 (gval 3) (4) fun r815 =>
fop pg .add 94 r812 r815 210 fun r817 =>
fop pg .mul 94 r817 r780 212 fun r819 =>
fld 6 1 (gval 3) (5) fun r822 =>
fop pg .add 94 r819 r822 215 fun r824 =>
fop pg .mul 94 r786 r824 216 fun r826 =>
fop pg .add 94 r784 r826 217 fun r828 =>
fng pg 94 r828 221 fun r830 =>
retL R [] [some (AV.sc (.float .f64 r830))]) else (
bif (z624 == (2)) then (
fop pg .mul 94 4602678819172646912 r780 186 fun r832 =>
fop pg .sub 94 4607182418800017408 r832 187 fun r834 =>
fop pg .mul 94 r780 r780 190 fun r836 =>
fld 6 1 (gval 3) (0) fun r839 =>
fop pg .mul 94 r839 r780 194 fun r841 =>
fld 6 1 (gval 3) (1) fun r844 =>
fop pg .add 94 r841 r844 197 fun r846 =>
fop pg .mul 94 r846 r780 199 fun r848 =>
fld 6 1 (gval 3) (2) fun r851 =>
fop pg .add 94 r848 r851 202 fun r853 =>
fop pg .mul 94 r853 r780 204 fun r855 =>
fld 6 1 (gval 3) (3) fun r858 =>
fop pg .add 94 r855 r858 207 fun r860 =>
fop pg .mul 94 r860 r780 209 fun r862 =>
fld 6 1 (gval 3) (4) fun r865 =>
fop pg .add 94 r862 r865 212 fun r867 =>
fop pg .mul 94 r867 r780 214 fun r869 =>
fld 6 1 (gval 3) (5) fun r872 =>
fop pg .add 94 r869 r872 217 fun r874 =>
fop pg .mul 94 r836 r874 218 fun r876 =>
fop pg .add 94 r834 r876 219 fun r878 =>
fng pg 94 r878 223 fun r880 =>
retL R [] [some (AV.sc (.float .f64 r880))]) else (
fop pg .mul 94 r636 r780 188 fun r882 =>
fld 6 1 (gval 4) (0) fun r885 =>
fop pg .mul 94 r885 r780 192 fun r887 =>
fld 6 1 (gval 4) (1) fun r890 =>
fop pg .add 94 r887 r890 195 fun r892 =>
fop pg .mul 94 r892 r780 197 fun r894 =>
fld 6 1 (gval 4) (2) fun r897 =>
fop pg .add 94 r894 r897 200 fun r899 =>
fop pg .mul 94 r899 r780 202 fun r901 =>
fld 6 1 (gval 4) (3) fun r904 =>
fop pg .add 94 r901 r904 205 fun r906 =>
fop pg .mul 94 r906 r780 207 fun r908 =>
fld 6 1 (gval 4) (4) fun r911 =>
fop pg .add 94 r908 r911 210 fun r913 =>
fop pg .mul 94 r913 r780 212 fun r915 =>
fld 6 1 (gval 4) (5) fun r918 =>
fop pg .add 94 r915 r918 215 fun r920 =>
fop pg .mul 94 r882 r920 216 fun r922 =>
fop pg .add 94 r636 r922 217 fun r924 =>
fng pg 94 r924 221 fun r926 =>
retL R [] [some (AV.sc (.float .f64 r926))])))))) else (
fcm pg .geq 94 4 a0 4737786807993761792 144 fun b928 =>
bif b928 then (
callQ pg KK.gl [] 69 [(AV.sc (.float .f64 a0))] fun v929 =>
exT2 v929 fun c930 c931 =>
ex_u64 c930 fun z932 =>
exF c931 fun r933 =>
bif (decide (z932 > (3))) then (
fop pg .mul 94 r933 r933 225 fun r935 =>
bif ((IntKind.wrap .u64 (z932 - (4))) == (1)) then (
fop pg .mul 94 4602678819172646912 r935 232 fun r937 =>
fop pg .sub 94 4607182418800017408 r937 233 fun r939 =>
fop pg .mul 94 r935 r935 236 fun r941 =>
fld 6 1 (gval 3) (0) fun r944 =>
fop pg .mul 94 r944 r935 240 fun r946 =>
fld 6 1 (gval 3) (1) fun r949 =>
fop pg .add 94 r946 r949 243 fun r951 =>
fop pg .mul 94 r951 r935 245 fun r953 =>
fld 6 1 (gval 3) (2) fun r956 =>
fop pg .add 94 r953 r956 248 fun r958 =>
fop pg .mul 94 r958 r935 250 fun r960 =>
fld 6 1 (gval 3) (3) fun r963 =>
fop pg .add 94 r960 r963 253 fun r965 =>
fop pg .mul 94 r965 r935 255 fun r967 =>
fld 6 1 (gval 3) (4) fun r970 =>
fop pg .add 94 r967 r970 258 fun r972 =>
fop pg .mul 94 r972 r935 260 fun r974 =>
fld 6 1 (gval 3) (5) fun r977 =>
fop pg .add 94 r974 r977 263 fun r979 =>
fop pg .mul 94 r941 r979 264 fun r981 =>
fop pg .add 94 r939 r981 265 fun r983 =>
fng pg 94 r983 269 fun r985 =>
retL R [] [some (AV.sc (.float .f64 r985))]) else (
bif ((IntKind.wrap .u64 (z932 - (4))) == (2)) then (
fop pg .mul 94 4602678819172646912 r935 234 fun r987 =>
fop pg .sub 94 4607182418800017408 r987 235 fun r989 =>
fop pg .mul 94 r935 r935 238 fun r991 =>
fld 6 1 (gval 3) (0) fun r994 =>
fop pg .mul 94 r994 r935 242 fun r996 =>
fld 6 1 (gval 3) (1) fun r999 =>
fop pg .add 94 r996 r999 245 fun r1001 =>
fop pg .mul 94 r1001 r935 247 fun r1003 =>
fld 6 1 (gval 3) (2) fun r1006 =>
fop pg .add 94 r1003 r1006 250 fun r1008 =>
fop pg .mul 94 r1008 r935 252 fun r1010 =>
fld 6 1 (gval 3) (3) fun r1013 =>
fop pg .add 94 r1010 r1013 255 fun r1015 =>
fop pg .mul 94 r1015 r935 257 fun r1017 =>
fld 6 1 (gval 3) (4) fun r1020 =>
fop pg .add 94 r1017 r1020 260 fun r1022 =>
fop pg .mul 94 r1022 r935 262 fun r1024 =>
fld 6 1 (gval 3) (5) fun r1027 =>
fop pg .add 94 r1024 r1027 265 fun r1029 =>
fop pg .mul 94 r991 r1029 266 fun r1031 =>
fop pg .add 94 r989 r1031 267 fun r1033 =>
fng pg 94 r1033 271 fun r1035 =>
retL R [] [some (AV.sc (.float .f64 r1035))]) else (
fop pg .mul 94 r933 r935 236 fun r1037 =>
fld 6 1 (gval 4) (0) fun r1040 =>
fop pg .mul 94 r1040 r935 240 fun r1042 =>
fld 6 1 (gval 4) (1) fun r1045 =>
fop pg .add 94 r1042 r1045 243 fun r1047 =>
fop pg .mul 94 r1047 r935 245 fun r1049 =>
fld 6 1 (gval 4) (2) fun r1052 =>
fop pg .add 94 r1049 r1052 248 fun r1054 =>
fop pg .mul 94 r1054 r935 250 fun r1056 =>
fld 6 1 (gval 4) (3) fun r1059 =>
fop pg .add 94 r1056 r1059 253 fun r1061 =>
fop pg .mul 94 r1061 r935 255 fun r1063 =>
fld 6 1 (gval 4) (4) fun r1066 =>
fop pg .add 94 r1063 r1066 258 fun r1068 =>
fop pg .mul 94 r1068 r935 260 fun r1070 =>
fld 6 1 (gval 4) (5) fun r1073 =>
fop pg .add 94 r1070 r1073 263 fun r1075 =>
fop pg .mul 94 r1037 r1075 264 fun r1077 =>
fop pg .add 94 r933 r1077 265 fun r1079 =>
fng pg 94 r1079 269 fun r1081 =>
retL R [] [some (AV.sc (.float .f64 r1081))]))) else (
fop pg .mul 94 r933 r933 219 fun r1083 =>
bif (z932 == (1)) then (
fop pg .mul 94 4602678819172646912 r1083 226 fun r1085 =>
fop pg .sub 94 4607182418800017408 r1085 227 fun r1087 =>
fop pg .mul 94 r1083 r1083 230 fun r1089 =>
fld 6 1 (gval 3) (0) fun r1092 =>
fop pg .mul 94 r1092 r1083 234 fun r1094 =>
fld 6 1 (gval 3) (1) fun r1097 =>
fop pg .add 94 r1094 r1097 237 fun r1099 =>
fop pg .mul 94 r1099 r1083 239 fun r1101 =>
fld 6 1 (gval 3) (2) fun r1104 =>
fop pg .add 94 r1101 r1104 242 fun r1106 =>
fop pg .mul 94 r1106 r1083 244 fun r1108 =>
fld 6 1 (gval 3) (3) fun r1111 =>
fop pg .add 94 r1108 r1111 247 fun r1113 =>
fop pg .mul 94 r1113 r1083 249 fun r1115 =>
fld 6 1 (gval 3) (4) fun r1118 =>
fop pg .add 94 r1115 r1118 252 fun r1120 =>
fop pg .mul 94 r1120 r1083 254 fun r1122 =>
fld 6 1 (gval 3) (5) fun r1125 =>
fop pg .add 94 r1122 r1125 257 fun r1127 =>
fop pg .mul 94 r1089 r1127 258 fun r1129 =>
fop pg .add 94 r1087 r1129 259 fun r1131 =>
retL R [] [some (AV.sc (.float .f64 r1131))]) else (
bif (z932 == (2)) then (
fop pg .mul 94 4602678819172646912 r1083 228 fun r1133 =>
fop pg .sub 94 4607182418800017408 r1133 229 fun r1135 =>
fop pg .mul 94 r1083 r1083 232 fun r1137 =>
fld 6 1 (gval 3) (0) fun r1140 =>
fop pg .mul 94 r1140 r1083 236 fun r1142 =>
fld 6 1 (gval 3) (1) fun r1145 =>
fop pg .add 94 r1142 r1145 239 fun r1147 =>
fop pg .mul 94 r1147 r1083 241 fun r1149 =>
fld 6 1 (gval 3) (2) fun r1152 =>
fop pg .add 94 r1149 r1152 244 fun r1154 =>
fop pg .mul 94 r1154 r1083 246 fun r1156 =>
fld 6 1 (gval 3) (3) fun r1159 =>
fop pg .add 94 r1156 r1159 249 fun r1161 =>
fop pg .mul 94 r1161 r1083 251 fun r1163 =>
fld 6 1 (gval 3) (4) fun r1166 =>
fop pg .add 94 r1163 r1166 254 fun r1168 =>
fop pg .mul 94 r1168 r1083 256 fun r1170 =>
fld 6 1 (gval 3) (5) fun r1173 =>
fop pg .add 94 r1170 r1173 259 fun r1175 =>
fop pg .mul 94 r1137 r1175 260 fun r1177 =>
fop pg .add 94 r1135 r1177 261 fun r1179 =>
retL R [] [some (AV.sc (.float .f64 r1179))]) else (
fop pg .mul 94 r933 r1083 230 fun r1181 =>
fld 6 1 (gval 4) (0) fun r1184 =>
fop pg .mul 94 r1184 r1083 234 fun r1186 =>
fld 6 1 (gval 4) (1) fun r1189 =>
fop pg .add 94 r1186 r1189 237 fun r1191 =>
fop pg .mul 94 r1191 r1083 239 fun r1193 =>
fld 6 1 (gval 4) (2) fun r1196 =>
fop pg .add 94 r1193 r1196 242 fun r1198 =>
fop pg .mul 94 r1198 r1083 244 fun r1200 =>
fld 6 1 (gval 4) (3) fun r1203 =>
fop pg .add 94 r1200 r1203 247 fun r1205 =>
fop pg .mul 94 r1205 r1083 249 fun r1207 =>
fld 6 1 (gval 4) (4) fun r1210 =>
fop pg .add 94 r1207 r1210 252 fun r1212 =>
fop pg .mul 94 r1212 r1083 254 fun r1214 =>
fld 6 1 (gval 4) (5) fun r1217 =>
fop pg .add 94 r1214 r1217 257 fun r1219 =>
fop pg .mul 94 r1181 r1219 258 fun r1221 =>
fop pg .add 94 r933 r1221 259 fun r1223 =>
retL R [] [some (AV.sc (.float .f64 r1223))])))) else (
fop pg .mul 94 a0 4608412980311869571 146 fun r1225 =>
opP (opA pg (.convert 94 97 (.tmp 0)) 97 [(AV.sc (.float .f64 r1225))] (mget []) 147) fun v1226 =>
ex_u64 v1226 fun z1227 =>
opP (opA pg (.convert 97 94 (.tmp 0)) 94 [(AV.sc (.int .u64 z1227))] (mget []) 150) fun v1228 =>
exF v1228 fun r1229 =>
opP (opA pg (.binOp .and 97 (.tmp 0) (.tmp 1) 97) 97 [(AV.sc (.int .u64 z1227)), (AV.sc (.int .u64 (1)))] (mget []) 153) fun v1230 =>
ex_u64 v1230 fun z1231 =>
bif (z1231 == (1)) then (
fop pg .add 94 r1229 4607182418800017408 159 fun r1233 =>
opP (opA pg (.binOp .and 97 (.tmp 0) (.tmp 1) 97) 97 [(AV.sc (.int .u64 (IntKind.wrap .u64 (z1227 + (1))))), (AV.sc (.int .u64 (7)))] (mget []) 162) fun v1234 =>
ex_u64 v1234 fun z1235 =>
fop pg .mul 94 r1233 4605249456957292544 166 fun r1237 =>
fop pg .sub 94 a0 r1237 167 fun r1239 =>
fop pg .mul 94 r1233 4495793288086814720 169 fun r1241 =>
fop pg .sub 94 r1239 r1241 170 fun r1243 =>
fop pg .mul 94 r1233 4388835458085048688 172 fun r1245 =>
fop pg .sub 94 r1243 r1245 173 fun r1247 =>
bif (decide (z1235 > (3))) then (
fop pg .mul 94 r1247 r1247 185 fun r1249 =>
bif ((IntKind.wrap .u64 (z1235 - (4))) == (1)) then (
fop pg .mul 94 4602678819172646912 r1249 192 fun r1251 =>
fop pg .sub 94 4607182418800017408 r1251 193 fun r1253 =>
fop pg .mul 94 r1249 r1249 196 fun r1255 =>
fld 6 1 (gval 3) (0) fun r1258 =>
fop pg .mul 94 r1258 r1249 200 fun r1260 =>
fld 6 1 (gval 3) (1) fun r1263 =>
fop pg .add 94 r1260 r1263 203 fun r1265 =>
fop pg .mul 94 r1265 r1249 205 fun r1267 =>
fld 6 1 (gval 3) (2) fun r1270 =>
fop pg .add 94 r1267 r1270 208 fun r1272 =>
fop pg .mul 94 r1272 r1249 210 fun r1274 =>
fld 6 1 (gval 3) (3) fun r1277 =>
fop pg .add 94 r1274 r1277 213 fun r1279 =>
fop pg .mul 94 r1279 r1249 215 fun r1281 =>
fld 6 1 (gval 3) (4) fun r1284 =>
fop pg .add 94 r1281 r1284 218 fun r1286 =>
fop pg .mul 94 r1286 r1249 220 fun r1288 =>
fld 6 1 (gval 3) (5) fun r1291 =>
fop pg .add 94 r1288 r1291 223 fun r1293 =>
fop pg .mul 94 r1255 r1293 224 fun r1295 =>
fop pg .add 94 r1253 r1295 225 fun r1297 =>
fng pg 94 r1297 229 fun r1299 =>
retL R [] [some (AV.sc (.float .f64 r1299))]) else (
bif ((IntKind.wrap .u64 (z1235 - (4))) == (2)) then (
fop pg .mul 94 4602678819172646912 r1249 194 fun r1301 =>
fop pg .sub 94 4607182418800017408 r1301 195 fun r1303 =>
fop pg .mul 94 r1249 r1249 198 fun r1305 =>
fld 6 1 (gval 3) (0) fun r1308 =>
fop pg .mul 94 r1308 r1249 202 fun r1310 =>
fld 6 1 (gval 3) (1) fun r1313 =>
fop pg .add 94 r1310 r1313 205 fun r1315 =>
fop pg .mul 94 r1315 r1249 207 fun r1317 =>
fld 6 1 (gval 3) (2) fun r1320 =>
fop pg .add 94 r1317 r1320 210 fun r1322 =>
fop pg .mul 94 r1322 r1249 212 fun r1324 =>
fld 6 1 (gval 3) (3) fun r1327 =>
fop pg .add 94 r1324 r1327 215 fun r1329 =>
fop pg .mul 94 r1329 r1249 217 fun r1331 =>
fld 6 1 (gval 3) (4) fun r1334 =>
fop pg .add 94 r1331 r1334 220 fun r1336 =>
fop pg .mul 94 r1336 r1249 222 fun r1338 =>
fld 6 1 (gval 3) (5) fun r1341 =>
fop pg .add 94 r1338 r1341 225 fun r1343 =>
fop pg .mul 94 r1305 r1343 226 fun r1345 =>
fop pg .add 94 r1303 r1345 227 fun r1347 =>
fng pg 94 r1347 231 fun r1349 =>
retL R [] [some (AV.sc (.float .f64 r1349))]) else (
fop pg .mul 94 r1247 r1249 196 fun r1351 =>
fld 6 1 (gval 4) (0) fun r1354 =>
fop pg .mul 94 r1354 r1249 200 fun r1356 =>
fld 6 1 (gval 4) (1) fun r1359 =>
fop pg .add 94 r1356 r1359 203 fun r1361 =>
fop pg .mul 94 r1361 r1249 205 fun r1363 =>
fld 6 1 (gval 4) (2) fun r1366 =>
fop pg .add 94 r1363 r1366 208 fun r1368 =>
fop pg .mul 94 r1368 r1249 210 fun r1370 =>
fld 6 1 (gval 4) (3) fun r1373 =>
fop pg .add 94 r1370 r1373 213 fun r1375 =>
fop pg .mul 94 r1375 r1249 215 fun r1377 =>
fld 6 1 (gval 4) (4) fun r1380 =>
fop pg .add 94 r1377 r1380 218 fun r1382 =>
fop pg .mul 94 r1382 r1249 220 fun r1384 =>
fld 6 1 (gval 4) (5) fun r1387 =>
fop pg .add 94 r1384 r1387 223 fun r1389 =>
fop pg .mul 94 r1351 r1389 224 fun r1391 =>
fop pg .add 94 r1247 r1391 225 fun r1393 =>
fng pg 94 r1393 229 fun r1395 =>
retL R [] [some (AV.sc (.float .f64 r1395))]))) else (
fop pg .mul 94 r1247 r1247 179 fun r1397 =>
bif (z1235 == (1)) then (
fop pg .mul 94 4602678819172646912 r1397 186 fun r1399 =>
fop pg .sub 94 4607182418800017408 r1399 187 fun r1401 =>
fop pg .mul 94 r1397 r1397 190 fun r1403 =>
fld 6 1 (gval 3) (0) fun r1406 =>
fop pg .mul 94 r1406 r1397 194 fun r1408 =>
fld 6 1 (gval 3) (1) fun r1411 =>
fop pg .add 94 r1408 r1411 197 fun r1413 =>
fop pg .mul 94 r1413 r1397 199 fun r1415 =>
fld 6 1 (gval 3) (2) fun r1418 =>
fop pg .add 94 r1415 r1418 202 fun r1420 =>
fop pg .mul 94 r1420 r1397 204 fun r1422 =>
fld 6 1 (gval 3) (3) fun r1425 =>
fop pg .add 94 r1422 r1425 207 fun r1427 =>
fop pg .mul 94 r1427 r1397 209 fun r1429 =>
fld 6 1 (gval 3) (4) fun r1432 =>
fop pg .add 94 r1429 r1432 212 fun r1434 =>
fop pg .mul 94 r1434 r1397 214 fun r1436 =>
fld 6 1 (gval 3) (5) fun r1439 =>
fop pg .add 94 r1436 r1439 217 fun r1441 =>
fop pg .mul 94 r1403 r1441 218 fun r1443 =>
fop pg .add 94 r1401 r1443 219 fun r1445 =>
retL R [] [some (AV.sc (.float .f64 r1445))]) else (
bif (z1235 == (2)) then (
fop pg .mul 94 4602678819172646912 r1397 188 fun r1447 =>
fop pg .sub 94 4607182418800017408 r1447 189 fun r1449 =>
fop pg .mul 94 r1397 r1397 192 fun r1451 =>
fld 6 1 (gval 3) (0) fun r1454 =>
fop pg .mul 94 r1454 r1397 196 fun r1456 =>
fld 6 1 (gval 3) (1) fun r1459 =>
fop pg .add 94 r1456 r1459 199 fun r1461 =>
fop pg .mul 94 r1461 r1397 201 fun r1463 =>
fld 6 1 (gval 3) (2) fun r1466 =>
fop pg .add 94 r1463 r1466 204 fun r1468 =>
fop pg .mul 94 r1468 r1397 206 fun r1470 =>
fld 6 1 (gval 3) (3) fun r1473 =>
fop pg .add 94 r1470 r1473 209 fun r1475 =>
fop pg .mul 94 r1475 r1397 211 fun r1477 =>
fld 6 1 (gval 3) (4) fun r1480 =>
fop pg .add 94 r1477 r1480 214 fun r1482 =>
fop pg .mul 94 r1482 r1397 216 fun r1484 =>
fld 6 1 (gval 3) (5) fun r1487 =>
fop pg .add 94 r1484 r1487 219 fun r1489 =>
fop pg .mul 94 r1451 r1489 220 fun r1491 =>
fop pg .add 94 r1449 r1491 221 fun r1493 =>
retL R [] [some (AV.sc (.float .f64 r1493))]) else (
fop pg .mul 94 r1247 r1397 190 fun r1495 =>
fld 6 1 (gval 4) (0) fun r1498 =>
fop pg .mul 94 r1498 r1397 194 fun r1500 =>
fld 6 1 (gval 4) (1) fun r1503 =>
fop pg .add 94 r1500 r1503 197 fun r1505 =>
fop pg .mul 94 r1505 r1397 199 fun r1507 =>
fld 6 1 (gval 4) (2) fun r1510 =>
fop pg .add 94 r1507 r1510 202 fun r1512 =>
fop pg .mul 94 r1512 r1397 204 fun r1514 =>
fld 6 1 (gval 4) (3) fun r1517 =>
fop pg .add 94 r1514 r1517 207 fun r1519 =>
fop pg .mul 94 r1519 r1397 209 fun r1521 =>
fld 6 1 (gval 4) (4) fun r1524 =>
fop pg .add 94 r1521 r1524 212 fun r1526 =>
fop pg .mul 94 r1526 r1397 214 fun r1528 =>
fld 6 1 (gval 4) (5) fun r1531 =>
fop pg .add 94 r1528 r1531 217 fun r1533 =>
fop pg .mul 94 r1495 r1533 218 fun r1535 =>
fop pg .add 94 r1247 r1535 219 fun r1537 =>
retL R [] [some (AV.sc (.float .f64 r1537))])))) else (
opP (opA pg (.binOp .and 97 (.tmp 0) (.tmp 1) 97) 97 [(AV.sc (.int .u64 z1227)), (AV.sc (.int .u64 (7)))] (mget []) 156) fun v1538 =>
ex_u64 v1538 fun z1539 =>
fop pg .mul 94 r1229 4605249456957292544 160 fun r1541 =>
fop pg .sub 94 a0 r1541 161 fun r1543 =>
fop pg .mul 94 r1229 4495793288086814720 163 fun r1545 =>
fop pg .sub 94 r1543 r1545 164 fun r1547 =>
fop pg .mul 94 r1229 4388835458085048688 166 fun r1549 =>
fop pg .sub 94 r1547 r1549 167 fun r1551 =>
bif (decide (z1539 > (3))) then (
fop pg .mul 94 r1551 r1551 179 fun r1553 =>
bif ((IntKind.wrap .u64 (z1539 - (4))) == (1)) then (
fop pg .mul 94 4602678819172646912 r1553 186 fun r1555 =>
fop pg .sub 94 4607182418800017408 r1555 187 fun r1557 =>
fop pg .mul 94 r1553 r1553 190 fun r1559 =>
fld 6 1 (gval 3) (0) fun r1562 =>
fop pg .mul 94 r1562 r1553 194 fun r1564 =>
fld 6 1 (gval 3) (1) fun r1567 =>
fop pg .add 94 r1564 r1567 197 fun r1569 =>
fop pg .mul 94 r1569 r1553 199 fun r1571 =>
fld 6 1 (gval 3) (2) fun r1574 =>
fop pg .add 94 r1571 r1574 202 fun r1576 =>
fop pg .mul 94 r1576 r1553 204 fun r1578 =>
fld 6 1 (gval 3) (3) fun r1581 =>
fop pg .add 94 r1578 r1581 207 fun r1583 =>
fop pg .mul 94 r1583 r1553 209 fun r1585 =>
fld 6 1 (gval 3) (4) fun r1588 =>
fop pg .add 94 r1585 r1588 212 fun r1590 =>
fop pg .mul 94 r1590 r1553 214 fun r1592 =>
fld 6 1 (gval 3) (5) fun r1595 =>
fop pg .add 94 r1592 r1595 217 fun r1597 =>
fop pg .mul 94 r1559 r1597 218 fun r1599 =>
fop pg .add 94 r1557 r1599 219 fun r1601 =>
fng pg 94 r1601 223 fun r1603 =>
retL R [] [some (AV.sc (.float .f64 r1603))]) else (
bif ((IntKind.wrap .u64 (z1539 - (4))) == (2)) then (
fop pg .mul 94 4602678819172646912 r1553 188 fun r1605 =>
fop pg .sub 94 4607182418800017408 r1605 189 fun r1607 =>
fop pg .mul 94 r1553 r1553 192 fun r1609 =>
fld 6 1 (gval 3) (0) fun r1612 =>
fop pg .mul 94 r1612 r1553 196 fun r1614 =>
fld 6 1 (gval 3) (1) fun r1617 =>
fop pg .add 94 r1614 r1617 199 fun r1619 =>
fop pg .mul 94 r1619 r1553 201 fun r1621 =>
fld 6 1 (gval 3) (2) fun r1624 =>
fop pg .add 94 r1621 r1624 204 fun r1626 =>
fop pg .mul 94 r1626 r1553 206 fun r1628 =>
fld 6 1 (gval 3) (3) fun r1631 =>
fop pg .add 94 r1628 r1631 209 fun r1633 =>
fop pg .mul 94 r1633 r1553 211 fun r1635 =>
fld 6 1 (gval 3) (4) fun r1638 =>
fop pg .add 94 r1635 r1638 214 fun r1640 =>
fop pg .mul 94 r1640 r1553 216 fun r1642 =>
fld 6 1 (gval 3) (5) fun r1645 =>
fop pg .add 94 r1642 r1645 219 fun r1647 =>
fop pg .mul 94 r1609 r1647 220 fun r1649 =>
fop pg .add 94 r1607 r1649 221 fun r1651 =>
fng pg 94 r1651 225 fun r1653 =>
retL R [] [some (AV.sc (.float .f64 r1653))]) else (
fop pg .mul 94 r1551 r1553 190 fun r1655 =>
fld 6 1 (gval 4) (0) fun r1658 =>
fop pg .mul 94 r1658 r1553 194 fun r1660 =>
fld 6 1 (gval 4) (1) fun r1663 =>
fop pg .add 94 r1660 r1663 197 fun r1665 =>
fop pg .mul 94 r1665 r1553 199 fun r1667 =>
fld 6 1 (gval 4) (2) fun r1670 =>
fop pg .add 94 r1667 r1670 202 fun r1672 =>
fop pg .mul 94 r1672 r1553 204 fun r1674 =>
fld 6 1 (gval 4) (3) fun r1677 =>
fop pg .add 94 r1674 r1677 207 fun r1679 =>
fop pg .mul 94 r1679 r1553 209 fun r1681 =>
fld 6 1 (gval 4) (4) fun r1684 =>
fop pg .add 94 r1681 r1684 212 fun r1686 =>
fop pg .mul 94 r1686 r1553 214 fun r1688 =>
fld 6 1 (gval 4) (5) fun r1691 =>
fop pg .add 94 r1688 r1691 217 fun r1693 =>
fop pg .mul 94 r1655 r1693 218 fun r1695 =>
fop pg .add 94 r1551 r1695 219 fun r1697 =>
fng pg 94 r1697 223 fun r1699 =>
retL R [] [some (AV.sc (.float .f64 r1699))]))) else (
fop pg .mul 94 r1551 r1551 173 fun r1701 =>
bif (z1539 == (1)) then (
fop pg .mul 94 4602678819172646912 r1701 180 fun r1703 =>
fop pg .sub 94 4607182418800017408 r1703 181 fun r1705 =>
fop pg .mul 94 r1701 r1701 184 fun r1707 =>
fld 6 1 (gval 3) (0) fun r1710 =>
fop pg .mul 94 r1710 r1701 188 fun r1712 =>
fld 6 1 (gval 3) (1) fun r1715 =>
fop pg .add 94 r1712 r1715 191 fun r1717 =>
fop pg .mul 94 r1717 r1701 193 fun r1719 =>
fld 6 1 (gval 3) (2) fun r1722 =>
fop pg .add 94 r1719 r1722 196 fun r1724 =>
fop pg .mul 94 r1724 r1701 198 fun r1726 =>
fld 6 1 (gval 3) (3) fun r1729 =>
fop pg .add 94 r1726 r1729 201 fun r1731 =>
fop pg .mul 94 r1731 r1701 203 fun r1733 =>
fld 6 1 (gval 3) (4) fun r1736 =>
fop pg .add 94 r1733 r1736 206 fun r1738 =>
fop pg .mul 94 r1738 r1701 208 fun r1740 =>
fld 6 1 (gval 3) (5) fun r1743 =>
fop pg .add 94 r1740 r1743 211 fun r1745 =>
fop pg .mul 94 r1707 r1745 212 fun r1747 =>
fop pg .add 94 r1705 r1747 213 fun r1749 =>
retL R [] [some (AV.sc (.float .f64 r1749))]) else (
bif (z1539 == (2)) then (
fop pg .mul 94 4602678819172646912 r1701 182 fun r1751 =>
fop pg .sub 94 4607182418800017408 r1751 183 fun r1753 =>
fop pg .mul 94 r1701 r1701 186 fun r1755 =>
fld 6 1 (gval 3) (0) fun r1758 =>
fop pg .mul 94 r1758 r1701 190 fun r1760 =>
fld 6 1 (gval 3) (1) fun r1763 =>
fop pg .add 94 r1760 r1763 193 fun r1765 =>
fop pg .mul 94 r1765 r1701 195 fun r1767 =>
fld 6 1 (gval 3) (2) fun r1770 =>
fop pg .add 94 r1767 r1770 198 fun r1772 =>
fop pg .mul 94 r1772 r1701 200 fun r1774 =>
fld 6 1 (gval 3) (3) fun r1777 =>
fop pg .add 94 r1774 r1777 203 fun r1779 =>
fop pg .mul 94 r1779 r1701 205 fun r1781 =>
fld 6 1 (gval 3) (4) fun r1784 =>
fop pg .add 94 r1781 r1784 208 fun r1786 =>
fop pg .mul 94 r1786 r1701 210 fun r1788 =>
fld 6 1 (gval 3) (5) fun r1791 =>
fop pg .add 94 r1788 r1791 213 fun r1793 =>
fop pg .mul 94 r1755 r1793 214 fun r1795 =>
fop pg .add 94 r1753 r1795 215 fun r1797 =>
retL R [] [some (AV.sc (.float .f64 r1797))]) else (
fop pg .mul 94 r1551 r1701 184 fun r1799 =>
fld 6 1 (gval 4) (0) fun r1802 =>
fop pg .mul 94 r1802 r1701 188 fun r1804 =>
fld 6 1 (gval 4) (1) fun r1807 =>
fop pg .add 94 r1804 r1807 191 fun r1809 =>
fop pg .mul 94 r1809 r1701 193 fun r1811 =>
fld 6 1 (gval 4) (2) fun r1814 =>
fop pg .add 94 r1811 r1814 196 fun r1816 =>
fop pg .mul 94 r1816 r1701 198 fun r1818 =>
fld 6 1 (gval 4) (3) fun r1821 =>
fop pg .add 94 r1818 r1821 201 fun r1823 =>
fop pg .mul 94 r1823 r1701 203 fun r1825 =>
fld 6 1 (gval 4) (4) fun r1828 =>
fop pg .add 94 r1825 r1828 206 fun r1830 =>
fop pg .mul 94 r1830 r1701 208 fun r1832 =>
fld 6 1 (gval 4) (5) fun r1835 =>
fop pg .add 94 r1832 r1835 211 fun r1837 =>
fop pg .mul 94 r1799 r1837 212 fun r1839 =>
fop pg .add 94 r1551 r1839 213 fun r1841 =>
retL R [] [some (AV.sc (.float .f64 r1841))])))))))))
theorem F65_own (a0 : Nat) (R : AV → Mem → Prop) (h : F65 a0 R) : Own pg KK.gl 65 [(AV.sc (.float .f64 a0))] R := own_of_F fol Tryd.func65 (code := c65) (by kernel_rfl) (by kernel_rfl) (by kernel_rfl) (X := F65 a0 R) (by kernel_rfl) h
/- math.Sin -/
noncomputable def c58 : Code := ((Tryd.f58).body).getD .skip
noncomputable def q58 (R : AV → Mem → Prop) : AExit → St → Prop := retQ pg Tryd.f58 R
noncomputable def F58 (a0 : Nat) (R : AV → Mem → Prop) : Prop :=
callQ pg KK.gl [] 65 [(AV.sc (.float .f64 a0))] fun v0 =>
exF v0 fun r1 =>
retL R [] [some (AV.sc (.float .f64 r1))]
theorem F58_own (a0 : Nat) (R : AV → Mem → Prop) (h : F58 a0 R) : Own pg KK.gl 58 [(AV.sc (.float .f64 a0))] R := own_of_F fol Tryd.func58 (code := c58) (by kernel_rfl) (by kernel_rfl) (by kernel_rfl) (X := F58 a0 R) (by kernel_rfl) h
/- math.Round -/
noncomputable def c57 : Code := ((Tryd.f57).body).getD .skip
noncomputable def q57 (R : AV → Mem → Prop) : AExit → St → Prop := retQ pg Tryd.f57 R
noncomputable def F57 (a0 : Nat) (R : AV → Mem → Prop) : Prop :=
callQ pg KK.gl [] 62 [(AV.sc (.float .f64 a0))] fun v0 =>
ex_u64 v0 fun z1 =>
opP (opA pg (.binOp .shr 97 (.tmp 0) (.tmp 1) 85) 97 [(AV.sc (.int .u64 z1)), (AV.sc (.int .u64 (52)))] (mget []) 68) fun v2 =>
ex_u64 v2 fun z3 =>
opP (opA pg (.binOp .and 85 (.tmp 0) (.tmp 1) 85) 85 [(AV.sc (.int .u64 z3)), (AV.sc (.int .u64 (2047)))] (mget []) 69) fun v4 =>
ex_u64 v4 fun z5 =>
bif (decide (z5 < (1023))) then (
opP (opA pg (.binOp .and 97 (.tmp 0) (.tmp 1) 97) 97 [(AV.sc (.int .u64 z1)), (AV.sc (.int .u64 (9223372036854775808)))] (mget []) 74) fun v6 =>
ex_u64 v6 fun z7 =>
bif (z5 == (1022)) then (
opP (opA pg (.binOp .or 97 (.tmp 0) (.tmp 1) 97) 97 [(AV.sc (.int .u64 z7)), (AV.sc (.int .u64 (4607182418800017408)))] (mget []) 79) fun v8 =>
ex_u64 v8 fun z9 =>
callQ pg KK.gl [] 63 [(AV.sc (.int .u64 z9))] fun v10 =>
exF v10 fun r11 =>
retL R [] [some (AV.sc (.float .f64 r11))]) else (
callQ pg KK.gl [] 63 [(AV.sc (.int .u64 z7))] fun v12 =>
exF v12 fun r13 =>
retL R [] [some (AV.sc (.float .f64 r13))])) else (
bif (decide (z5 < (1075))) then (
opP (opA pg (.binOp .shr 97 (.tmp 0) (.tmp 1) 85) 97 [(AV.sc (.int .u64 (2251799813685248))), (AV.sc (.int .u64 (IntKind.wrap .u64 (z5 - (1023)))))] (mget []) 80) fun v14 =>
ex_u64 v14 fun z15 =>
opP (opA pg (.binOp .shr 97 (.tmp 0) (.tmp 1) 85) 97 [(AV.sc (.int .u64 (4503599627370495))), (AV.sc (.int .u64 (IntKind.wrap .u64 (z5 - (1023)))))] (mget []) 85) fun v16 =>
ex_u64 v16 fun z17 =>
opP (opA pg (.binOp .andNot 97 (.tmp 0) (.tmp 1) 97) 97 [(AV.sc (.int .u64 (IntKind.wrap .u64 (z1 + z15)))), (AV.sc (.int .u64 z17))] (mget []) 86) fun v18 =>
ex_u64 v18 fun z19 =>
callQ pg KK.gl [] 63 [(AV.sc (.int .u64 z19))] fun v20 =>
exF v20 fun r21 =>
retL R [] [some (AV.sc (.float .f64 r21))]) else (
callQ pg KK.gl [] 63 [(AV.sc (.int .u64 z1))] fun v22 =>
exF v22 fun r23 =>
retL R [] [some (AV.sc (.float .f64 r23))]))
theorem F57_own (a0 : Nat) (R : AV → Mem → Prop) (h : F57 a0 R) : Own pg KK.gl 57 [(AV.sc (.float .f64 a0))] R := own_of_F fol Tryd.func57 (code := c57) (by kernel_rfl) (by kernel_rfl) (by kernel_rfl) (X := F57 a0 R) (by kernel_rfl) h
/- skyway/angle.Sin -/
noncomputable def c52 : Code := ((Tryd.f52).body).getD .skip
noncomputable def q52 (R : AV → Mem → Prop) : AExit → St → Prop := retQ pg Tryd.f52 R
noncomputable def F52 (a0 : Int) (R : AV → Mem → Prop) : Prop :=
callQ pg KK.gl [] 59 [(intA a0)] fun v0 =>
ex_i64 v0 fun z1 =>
opP (opA pg (.convert 3 94 (.tmp 0)) 94 [(intA z1)] (mget []) 66) fun v2 =>
exF v2 fun r3 =>
fop pg .mul 94 r3 4614256656552045848 67 fun r5 =>
fop pg .quo 94 r5 4656722014701092864 68 fun r7 =>
callQ pg KK.gl [] 58 [(AV.sc (.float .f64 r7))] fun v8 =>
exF v8 fun r9 =>
fop pg .mul 94 4670232813583204352 r9 133 fun r11 =>
callQ pg KK.gl [] 57 [(AV.sc (.float .f64 r11))] fun v12 =>
exF v12 fun r13 =>
opP (opA pg (.convert 94 3 (.tmp 0)) 3 [(AV.sc (.float .f64 r13))] (mget []) 198) fun v14 =>
ex_i64 v14 fun z15 =>
retL R [] [some (intA z15)]
theorem F52_own (a0 : Int) (R : AV → Mem → Prop) (h : F52 a0 R) : Own pg KK.gl 52 [(intA a0)] R := own_of_F fol Tryd.func52 (code := c52) (by kernel_rfl) (by kernel_rfl) (by kernel_rfl) (X := F52 a0 R) (by kernel_rfl) h
/- skyway/angle.Cos -/
noncomputable def c53 : Code := ((Tryd.f53).body).getD .skip
noncomputable def q53 (R : AV → Mem → Prop) : AExit → St → Prop := retQ pg Tryd.f53 R
noncomputable def F53 (a0 : Int) (R : AV → Mem → Prop) : Prop :=
callQ pg KK.gl [] 59 [(intA a0)] fun v0 =>
ex_i64 v0 fun z1 =>
callQ pg KK.gl [] 52 [(intA (IntKind.wrap .i64 (z1 + (1024))))] fun v2 =>
ex_i64 v2 fun z3 =>
retL R [] [some (intA z3)]
theorem F53_own (a0 : Int) (R : AV → Mem → Prop) (h : F53 a0 R) : Own pg KK.gl 53 [(intA a0)] R := own_of_F fol Tryd.func53 (code := c53) (by kernel_rfl) (by kernel_rfl) (by kernel_rfl) (X := F53 a0 R) (by kernel_rfl) h
/- skyway/angle.Vector -/
noncomputable def c44 : Code := ((Tryd.f44).body).getD .skip
noncomputable def q44 (R : AV → Mem → Prop) : AExit → St → Prop := retQ pg Tryd.f44 R
noncomputable def F44 (a0 : Int) (a1 : Int) (R : AV → Mem → Prop) : Prop :=
bif (decide (a1 < (0))) then (
opP (bld [(intA (0)), (intA (0))] [(0, 1), (1, 1)] []) fun v0 =>
storeW pg (mget ((0, some ⟨[(intA (0)), (intA (0))], 29⟩) :: [])) 29 (AV.ptr 0 0) v0 fun v1 d1 =>
retL R (mpushs ((0, some ⟨[(intA (0)), (intA (0))], 29⟩) :: []) d1) [(aLoad pg (mget (mpushs ((0, some ⟨[(intA (0)), (intA (0))], 29⟩) :: []) d1)) 29 (AV.ptr 0 0)).map (·.1), some (intA (4))]) else (
bif (decide (a1 > (2000000))) then (
opP (bld [(intA (0)), (intA (0))] [(0, 1), (1, 1)] []) fun v2 =>
storeW pg (mget ((0, some ⟨[(intA (0)), (intA (0))], 29⟩) :: [])) 29 (AV.ptr 0 0) v2 fun v3 d3 =>
retL R (mpushs ((0, some ⟨[(intA (0)), (intA (0))], 29⟩) :: []) d3) [(aLoad pg (mget (mpushs ((0, some ⟨[(intA (0)), (intA (0))], 29⟩) :: []) d3)) 29 (AV.ptr 0 0)).map (·.1), some (intA (4))]) else (
callQ pg KK.gl ((0, some ⟨[(intA (0)), (intA (0))], 29⟩) :: []) 52 [(intA a0)] fun v4 =>
ex_i64 v4 fun z5 =>
callQ pg KK.gl ((0, some ⟨[(intA (0)), (intA (0))], 29⟩) :: []) 51 [(intA (IntKind.wrap .i64 (a1 * z5))), (intA (16384))] fun v6 =>
ex_i64 v6 fun z7 =>
callQ pg KK.gl ((0, some ⟨[(intA (0)), (intA (0))], 29⟩) :: []) 53 [(intA a0)] fun v8 =>
ex_i64 v8 fun z9 =>
callQ pg KK.gl ((0, some ⟨[(intA (0)), (intA (0))], 29⟩) :: []) 51 [(intA (IntKind.wrap .i64 (a1 * z9))), (intA (16384))] fun v10 =>
ex_i64 v10 fun z11 =>
opP (bld [(intA (0)), (intA (0))] [(0, 1), (1, 1)] [(0, (intA z7)), (1, (intA z11))]) fun v12 =>
storeW pg (mget ((0, some ⟨[(intA (0)), (intA (0))], 29⟩) :: [])) 29 (AV.ptr 0 0) v12 fun v13 d13 =>
retL R (mpushs ((0, some ⟨[(intA (0)), (intA (0))], 29⟩) :: []) d13) [(aLoad pg (mget (mpushs ((0, some ⟨[(intA (0)), (intA (0))], 29⟩) :: []) d13)) 29 (AV.ptr 0 0)).map (·.1), some (intA (0))]))
theorem F44_own (a0 : Int) (a1 : Int) (R : AV → Mem → Prop) (h : F44 a0 a1 R) : Own pg KK.gl 44 [(intA a0), (intA a1)] R := own_of_F fol Tryd.func44 (code := c44) (by kernel_rfl) (by kernel_rfl) (by kernel_rfl) (X := F44 a0 a1 R) (by kernel_rfl) h
/- skyway/skywaykeep3.level -/
noncomputable def c10 : Code := ((Tryd.f10).body).getD .skip
noncomputable def q10 (R : AV → Mem → Prop) : AExit → St → Prop := retQ pg Tryd.f10 R
noncomputable def F10 (R : AV → Mem → Prop) : Prop :=
opP (bld [(intA (0)), (intA (0)), (intA (0)), (intA (0))] [(0, 1), (1, 2), (3, 1)] [(2, (intA (9000)))]) fun v0 =>
opP (bld [(intA (0)), (intA (0)), (intA (0)), (intA (0)), (intA (0)), (intA (0))] [(0, 4), (4, 1), (5, 1)] [(0, v0), (1, (intA (100))), (2, (intA (50)))]) fun v1 =>
storeW pg (mget ((3, some ⟨[(intA (0)), (intA (0)), (intA (0)), (intA (0)), (intA (0)), (intA (0))], 40⟩) :: [])) 40 (AV.ptr 3 0) v1 fun v2 d2 =>
opP (ldA (mget (mpushs ((3, some ⟨[(intA (0)), (intA (0)), (intA (0)), (intA (0)), (intA (0)), (intA (0))], 40⟩) :: []) d2)) 6 (AV.ptr 3 0)) fun v3 =>
exA6 v3 fun c4 c5 c6 c7 c8 c9 =>
ex_i64 c4 fun z10 =>
ex_i64 c5 fun z11 =>
ex_i64 c6 fun z12 =>
ex_i64 c7 fun z13 =>
ex_i64 c8 fun z14 =>
ex_i64 c9 fun z15 =>
opP (ldA (mget ((6, some ⟨[(intA (100)), (intA (10000)), (intA z12), (intA z13), (intA z14), (intA z15)], 40⟩) :: (6, some ⟨[(intA (100)), (intA z11), (intA z12), (intA z13), (intA z14), (intA z15)], 40⟩) :: (6, some ⟨[(intA z10), (intA z11), (intA z12), (intA z13), (intA z14), (intA z15)], 40⟩) :: (6, some ⟨[(intA (0)), (intA (0)), (intA (0)), (intA (0)), (intA (0)), (intA (0))], 40⟩) :: (mpushs ((3, some ⟨[(intA (0)), (intA (0)), (intA (0)), (intA (0)), (intA (0)), (intA (0))], 40⟩) :: []) d2))) 6 (AV.ptr 3 0)) fun v16 =>
exA6 v16 fun c17 c18 c19 c20 c21 c22 =>
ex_i64 c17 fun z23 =>
ex_i64 c18 fun z24 =>
ex_i64 c19 fun z25 =>
ex_i64 c20 fun z26 =>
ex_i64 c21 fun z27 =>
ex_i64 c22 fun z28 =>
opN (bsl 17 40 6 2 [(intA (0)), (intA (0)), (intA (0)), (intA (0)), (intA (0)), (intA (0))] [(0, (AV.agg [(intA z23), (intA z24), (intA z25), (intA z26), (intA z27), (intA z28)])), (1, (AV.agg [(intA (100)), (intA (10000)), (intA z12), (intA z13), (intA z14), (intA z15)]))]) ((6, some ⟨[(intA (100)), (intA (10000)), (intA z12), (intA z13), (intA z14), (intA z15)], 40⟩) :: (6, some ⟨[(intA (100)), (intA z11), (intA z12), (intA z13), (intA z14), (intA z15)], 40⟩) :: (6, some ⟨[(intA z10), (intA z11), (intA z12), (intA z13), (intA z14), (intA z15)], 40⟩) :: (6, some ⟨[(intA (0)), (intA (0)), (intA (0)), (intA (0)), (intA (0)), (intA (0))], 40⟩) :: (mpushs ((3, some ⟨[(intA (0)), (intA (0)), (intA (0)), (intA (0)), (intA (0)), (intA (0))], 40⟩) :: []) d2)) fun v29 m29 =>
retL R m29 [some v29]
theorem F10_own (R : AV → Mem → Prop) (h : F10  R) : Own pg KK.gl 10 [] R := own_of_F fol Tryd.func10 (code := c10) (by kernel_rfl) (by kernel_rfl) (by kernel_rfl) (X := F10  R) (by kernel_rfl) h
/- skyway/skywaykeep3.climbed -/
noncomputable def c11 : Code := ((Tryd.f11).body).getD .skip
noncomputable def q11 (R : AV → Mem → Prop) : AExit → St → Prop := retQ pg Tryd.f11 R
noncomputable def F11 (a0 : Int) (R : AV → Mem → Prop) : Prop :=
opP (bld [(AV.sc (.string ⟨#[]⟩)), (intA (0)), (intA (0)), (AV.sc (.string ⟨#[]⟩))] [(0, 1), (1, 1), (2, 1), (3, 1)] [(0, (AV.sc (.string ⟨#[65, 49]⟩))), (2, (intA a0))]) fun v0 =>
storeW pg (mget ((0, some ⟨[(AV.sc (.string ⟨#[]⟩)), (intA (0)), (intA (0)), (AV.sc (.string ⟨#[]⟩))], 25⟩) :: [])) 25 (AV.ptr 0 0) v0 fun v1 d1 =>
retL R (mpushs ((0, some ⟨[(AV.sc (.string ⟨#[]⟩)), (intA (0)), (intA (0)), (AV.sc (.string ⟨#[]⟩))], 25⟩) :: []) d1) [(aLoad pg (mget (mpushs ((0, some ⟨[(AV.sc (.string ⟨#[]⟩)), (intA (0)), (intA (0)), (AV.sc (.string ⟨#[]⟩))], 25⟩) :: []) d1)) 25 (AV.ptr 0 0)).map (·.1)]
theorem F11_own (a0 : Int) (R : AV → Mem → Prop) (h : F11 a0 R) : Own pg KK.gl 11 [(intA a0)] R := own_of_F fol Tryd.func11 (code := c11) (by kernel_rfl) (by kernel_rfl) (by kernel_rfl) (X := F11 a0 R) (by kernel_rfl) h
/- skyway/skywaykeep3.jet -/
noncomputable def c12 : Code := ((Tryd.f12).body).getD .skip
noncomputable def q12 (R : AV → Mem → Prop) : AExit → St → Prop := retQ pg Tryd.f12 R
noncomputable def F12 (R : AV → Mem → Prop) : Prop :=
opP (bld [(AV.sc (.string ⟨#[]⟩)), (intA (0)), (intA (0)), (intA (0)), (intA (0)), (intA (0)), (intA (0))] [(0, 1), (1, 1), (2, 1), (3, 1), (4, 1), (5, 1), (6, 1)] [(0, (AV.sc (.string ⟨#[74, 69, 84]⟩))), (1, (intA (1))), (2, (intA (40000))), (3, (intA (50))), (4, (intA (40))), (5, (intA (50))), (6, (intA (300)))]) fun v0 =>
storeW pg (mget ((0, some ⟨[(AV.sc (.string ⟨#[]⟩)), (intA (0)), (intA (0)), (intA (0)), (intA (0)), (intA (0)), (intA (0))], 27⟩) :: [])) 27 (AV.ptr 0 0) v0 fun v1 d1 =>
retL R (mpushs ((0, some ⟨[(AV.sc (.string ⟨#[]⟩)), (intA (0)), (intA (0)), (intA (0)), (intA (0)), (intA (0)), (intA (0))], 27⟩) :: []) d1) [(aLoad pg (mget (mpushs ((0, some ⟨[(AV.sc (.string ⟨#[]⟩)), (intA (0)), (intA (0)), (intA (0)), (intA (0)), (intA (0)), (intA (0))], 27⟩) :: []) d1)) 27 (AV.ptr 0 0)).map (·.1)]
theorem F12_own (R : AV → Mem → Prop) (h : F12  R) : Own pg KK.gl 12 [] R := own_of_F fol Tryd.func12 (code := c12) (by kernel_rfl) (by kernel_rfl) (by kernel_rfl) (X := F12  R) (by kernel_rfl) h
/- skyway/plane.Check -/
noncomputable def c20 : Code := ((Tryd.f20).body).getD .skip
noncomputable def q20 (R : AV → Mem → Prop) : AExit → St → Prop := retQ pg Tryd.f20 R
noncomputable def F20 (a0_0 : Int) (a0_1 : Int) (R : AV → Mem → Prop) : Prop :=
bif (decide (a0_0 < (-1000000))) then (
retL R ((0, some ⟨[(intA a0_0), (intA a0_1)], 29⟩) :: []) [some (intA (4))]) else (
bif (decide (a0_0 > (1000000))) then (
retL R ((0, some ⟨[(intA a0_0), (intA a0_1)], 29⟩) :: []) [some (intA (4))]) else (
bif (decide (a0_1 < (-1000000))) then (
retL R ((0, some ⟨[(intA a0_0), (intA a0_1)], 29⟩) :: []) [some (intA (4))]) else (
bif (decide (a0_1 > (1000000))) then (
retL R ((0, some ⟨[(intA a0_0), (intA a0_1)], 29⟩) :: []) [some (intA (4))]) else (
retL R ((0, some ⟨[(intA a0_0), (intA a0_1)], 29⟩) :: []) [some (intA (0))]))))
theorem F20_own (a0_0 : Int) (a0_1 : Int) (R : AV → Mem → Prop) (h : F20 a0_0 a0_1 R) : Own pg KK.gl 20 [(AV.agg [(intA a0_0), (intA a0_1)])] R := own_of_F fol Tryd.func20 (code := c20) (by kernel_rfl) (by kernel_rfl) (by kernel_rfl) (X := F20 a0_0 a0_1 R) (by kernel_rfl) h
/- skyway/tube.Check -/
noncomputable def c7 : Code := ((Tryd.f7).body).getD .skip
noncomputable def q7 (R : AV → Mem → Prop) : AExit → St → Prop := retQ pg Tryd.f7 R
noncomputable def c7_0 : Code := loopB c7 0
noncomputable def q7_0 (R : AV → Mem → Prop) : AExit → St → Prop := contW pg KK 86 0 c7 0 (q7 R)
noncomputable def qq7_0 (R : AV → Mem → Prop) (N0 : St → Prop) : AExit → St → Prop := thenQ N0 (q7_0 R)
def h7_0 (t0 : AV) (t2 : Int) (t14 : AV) (t15 : Int) (t16 : Int) (m : Mem) : St := ⟨[(0, t0), (2, (intA t2)), (14, t14), (15, (intA t15)), (16, (intA t16))], m, 100000⟩
noncomputable def B7_0 (t0 : AV) (t2 : Int) (t14 : AV) (t15 : Int) (t16 : Int) (m : Mem) (R : AV → Mem → Prop) (N0 : St → Prop) : Prop :=
bif (decide (t16 < t15)) then (
opP (idxS 6 t14 (intA t16)) fun v6 =>
opP (ldA (mget m) 6 v6) fun v7 =>
exA6 v7 fun c8 c9 c10 c11 c12 c13 =>
ex_i64 c8 fun z14 =>
ex_i64 c9 fun z15 =>
ex_i64 c10 fun z16 =>
ex_i64 c11 fun z17 =>
ex_i64 c12 fun z18 =>
ex_i64 c13 fun z19 =>
bif (decide (z14 < (0))) then (
retL R ((100004, some ⟨[(intA z14), (intA z15), (intA z16), (intA z17), (intA z18), (intA z19)], 40⟩) :: (100004, some ⟨[(intA (0)), (intA (0)), (intA (0)), (intA (0)), (intA (0)), (intA (0))], 40⟩) :: m) [some (intA (12))]) else (
bif (decide (z14 > (200000))) then (
retL R ((100004, some ⟨[(intA z14), (intA z15), (intA z16), (intA z17), (intA z18), (intA z19)], 40⟩) :: (100004, some ⟨[(intA (0)), (intA (0)), (intA (0)), (intA (0)), (intA (0)), (intA (0))], 40⟩) :: m) [some (intA (12))]) else (
bif (decide (t16 > (0))) then (
opP (idxS 6 t0 (intA (IntKind.wrap .i64 (t16 - (1))))) fun v20 =>
opP (fldO 0 v20) fun v21 =>
opP (fldO 0 v21) fun v22 =>
opP (ldS (mget ((100004, some ⟨[(intA z14), (intA z15), (intA z16), (intA z17), (intA z18), (intA z19)], 40⟩) :: (100004, some ⟨[(intA (0)), (intA (0)), (intA (0)), (intA (0)), (intA (0)), (intA (0))], 40⟩) :: m)) v22) fun v23 =>
ex_i64 v23 fun z24 =>
bif (decide (z14 ≤ z24)) then (
retL R ((100004, some ⟨[(intA z14), (intA z15), (intA z16), (intA z17), (intA z18), (intA z19)], 40⟩) :: (100004, some ⟨[(intA (0)), (intA (0)), (intA (0)), (intA (0)), (intA (0)), (intA (0))], 40⟩) :: m) [some (intA (12))]) else (
callQ pg KK.gl ((100004, some ⟨[(intA z14), (intA z15), (intA z16), (intA z17), (intA z18), (intA z19)], 40⟩) :: (100004, some ⟨[(intA (0)), (intA (0)), (intA (0)), (intA (0)), (intA (0)), (intA (0))], 40⟩) :: m) 20 [(AV.agg [(intA z15), (intA z16)])] fun v25 =>
ex_i64 v25 fun z26 =>
bif (z26 != (0)) then (
retL R ((100004, some ⟨[(intA z14), (intA z15), (intA z16), (intA z17), (intA z18), (intA z19)], 40⟩) :: (100004, some ⟨[(intA (0)), (intA (0)), (intA (0)), (intA (0)), (intA (0)), (intA (0))], 40⟩) :: m) [some (intA z26)]) else (
bif (decide (z17 < (0))) then (
retL R ((100004, some ⟨[(intA z14), (intA z15), (intA z16), (intA z17), (intA z18), (intA z19)], 40⟩) :: (100004, some ⟨[(intA (0)), (intA (0)), (intA (0)), (intA (0)), (intA (0)), (intA (0))], 40⟩) :: m) [some (intA (4))]) else (
bif (decide (z17 > (60000))) then (
retL R ((100004, some ⟨[(intA z14), (intA z15), (intA z16), (intA z17), (intA z18), (intA z19)], 40⟩) :: (100004, some ⟨[(intA (0)), (intA (0)), (intA (0)), (intA (0)), (intA (0)), (intA (0))], 40⟩) :: m) [some (intA (4))]) else (
bif (decide (z18 < (0))) then (
retL R ((100004, some ⟨[(intA z14), (intA z15), (intA z16), (intA z17), (intA z18), (intA z19)], 40⟩) :: (100004, some ⟨[(intA (0)), (intA (0)), (intA (0)), (intA (0)), (intA (0)), (intA (0))], 40⟩) :: m) [some (intA (4))]) else (
bif (decide (z18 > (1000000))) then (
retL R ((100004, some ⟨[(intA z14), (intA z15), (intA z16), (intA z17), (intA z18), (intA z19)], 40⟩) :: (100004, some ⟨[(intA (0)), (intA (0)), (intA (0)), (intA (0)), (intA (0)), (intA (0))], 40⟩) :: m) [some (intA (4))]) else (
bif (decide (z19 < (0))) then (
retL R ((100004, some ⟨[(intA z14), (intA z15), (intA z16), (intA z17), (intA z18), (intA z19)], 40⟩) :: (100004, some ⟨[(intA (0)), (intA (0)), (intA (0)), (intA (0)), (intA (0)), (intA (0))], 40⟩) :: m) [some (intA (4))]) else (
bif (decide (z19 > (60000))) then (
retL R ((100004, some ⟨[(intA z14), (intA z15), (intA z16), (intA z17), (intA z18), (intA z19)], 40⟩) :: (100004, some ⟨[(intA (0)), (intA (0)), (intA (0)), (intA (0)), (intA (0)), (intA (0))], 40⟩) :: m) [some (intA (4))]) else (
N0 ⟨[(0, t0), (2, (intA t2)), (14, t14), (15, (intA t15)), (16, (intA (IntKind.wrap .i64 (t16 + (1))))), (17, (boolA (decide (t16 < t15)))), (18, (intA t16)), (19, v6), (20, (AV.agg [(intA z14), (intA z15), (intA z16), (intA z17), (intA z18), (intA z19)])), (4, (AV.ptr 100004 0)), (3, (intA t16)), (21, (AV.ptr 100004 0)), (22, (AV.ptr 100004 0)), (23, (intA z14)), (24, (boolA (decide (z14 < (0))))), (25, (boolA false)), (26, (AV.ptr 100004 0)), (27, (AV.ptr 100004 0)), (28, (intA z14)), (29, (boolA (decide (z14 > (200000))))), (30, (boolA (decide (z14 > (200000))))), (31, (boolA false)), (32, (intA t16)), (33, (boolA (decide (t16 > (0))))), (34, (boolA true)), (35, (AV.ptr 100004 0)), (36, (AV.ptr 100004 0)), (37, (intA z14)), (38, t0), (39, (intA t16)), (40, (intA (IntKind.wrap .i64 (t16 - (1))))), (41, v20), (42, v21), (43, v22), (44, (intA z24)), (45, (boolA (decide (z14 ≤ z24)))), (46, (boolA (decide (z14 ≤ z24)))), (47, (boolA (decide (z14 ≤ z24)))), (48, (AV.ptr 100004 0)), (49, (AV.ptr 100004 1)), (50, (AV.agg [(intA z15), (intA z16)])), (51, (intA z26)), (5, (intA z26)), (52, (intA z26)), (53, (boolA (z26 != (0)))), (55, (AV.ptr 100004 0)), (56, (AV.ptr 100004 3)), (57, (intA z17)), (58, (boolA (decide (z17 < (0))))), (59, (boolA false)), (60, (AV.ptr 100004 0)), (61, (AV.ptr 100004 3)), (62, (intA z17)), (63, (boolA (decide (z17 > (60000))))), (64, (boolA (decide (z17 > (60000))))), (65, (boolA false)), (66, (AV.ptr 100004 4)), (67, (intA z18)), (68, (boolA (decide (z18 < (0))))), (69, (boolA (decide (z18 < (0))))), (70, (boolA false)), (71, (AV.ptr 100004 4)), (72, (intA z18)), (73, (boolA (decide (z18 > (1000000))))), (74, (boolA (decide (z18 > (1000000))))), (75, (boolA false)), (76, (AV.ptr 100004 5)), (77, (intA z19)), (78, (boolA (decide (z19 < (0))))), (79, (boolA (decide (z19 < (0))))), (80, (boolA false)), (81, (AV.ptr 100004 5)), (82, (intA z19)), (83, (boolA (decide (z19 > (60000))))), (84, (boolA (decide (z19 > (60000))))), (85, (intA (IntKind.wrap .i64 (t16 + (1)))))], ((100004, some ⟨[(intA z14), (intA z15), (intA z16), (intA z17), (intA z18), (intA z19)], 40⟩) :: (100004, some ⟨[(intA (0)), (intA (0)), (intA (0)), (intA (0)), (intA (0)), (intA (0))], 40⟩) :: m), 100136⟩))))))))) else (
callQ pg KK.gl ((100004, some ⟨[(intA z14), (intA z15), (intA z16), (intA z17), (intA z18), (intA z19)], 40⟩) :: (100004, some ⟨[(intA (0)), (intA (0)), (intA (0)), (intA (0)), (intA (0)), (intA (0))], 40⟩) :: m) 20 [(AV.agg [(intA z15), (intA z16)])] fun v27 =>
ex_i64 v27 fun z28 =>
bif (z28 != (0)) then (
retL R ((100004, some ⟨[(intA z14), (intA z15), (intA z16), (intA z17), (intA z18), (intA z19)], 40⟩) :: (100004, some ⟨[(intA (0)), (intA (0)), (intA (0)), (intA (0)), (intA (0)), (intA (0))], 40⟩) :: m) [some (intA z28)]) else (
bif (decide (z17 < (0))) then (
retL R ((100004, some ⟨[(intA z14), (intA z15), (intA z16), (intA z17), (intA z18), (intA z19)], 40⟩) :: (100004, some ⟨[(intA (0)), (intA (0)), (intA (0)), (intA (0)), (intA (0)), (intA (0))], 40⟩) :: m) [some (intA (4))]) else (
bif (decide (z17 > (60000))) then (
retL R ((100004, some ⟨[(intA z14), (intA z15), (intA z16), (intA z17), (intA z18), (intA z19)], 40⟩) :: (100004, some ⟨[(intA (0)), (intA (0)), (intA (0)), (intA (0)), (intA (0)), (intA (0))], 40⟩) :: m) [some (intA (4))]) else (
bif (decide (z18 < (0))) then (
retL R ((100004, some ⟨[(intA z14), (intA z15), (intA z16), (intA z17), (intA z18), (intA z19)], 40⟩) :: (100004, some ⟨[(intA (0)), (intA (0)), (intA (0)), (intA (0)), (intA (0)), (intA (0))], 40⟩) :: m) [some (intA (4))]) else (
bif (decide (z18 > (1000000))) then (
retL R ((100004, some ⟨[(intA z14), (intA z15), (intA z16), (intA z17), (intA z18), (intA z19)], 40⟩) :: (100004, some ⟨[(intA (0)), (intA (0)), (intA (0)), (intA (0)), (intA (0)), (intA (0))], 40⟩) :: m) [some (intA (4))]) else (
bif (decide (z19 < (0))) then (
retL R ((100004, some ⟨[(intA z14), (intA z15), (intA z16), (intA z17), (intA z18), (intA z19)], 40⟩) :: (100004, some ⟨[(intA (0)), (intA (0)), (intA (0)), (intA (0)), (intA (0)), (intA (0))], 40⟩) :: m) [some (intA (4))]) else (
bif (decide (z19 > (60000))) then (
retL R ((100004, some ⟨[(intA z14), (intA z15), (intA z16), (intA z17), (intA z18), (intA z19)], 40⟩) :: (100004, some ⟨[(intA (0)), (intA (0)), (intA (0)), (intA (0)), (intA (0)), (intA (0))], 40⟩) :: m) [some (intA (4))]) else (
N0 ⟨[(0, t0), (2, (intA t2)), (14, t14), (15, (intA t15)), (16, (intA (IntKind.wrap .i64 (t16 + (1))))), (17, (boolA (decide (t16 < t15)))), (18, (intA t16)), (19, v6), (20, (AV.agg [(intA z14), (intA z15), (intA z16), (intA z17), (intA z18), (intA z19)])), (4, (AV.ptr 100004 0)), (3, (intA t16)), (21, (AV.ptr 100004 0)), (22, (AV.ptr 100004 0)), (23, (intA z14)), (24, (boolA (decide (z14 < (0))))), (25, (boolA false)), (26, (AV.ptr 100004 0)), (27, (AV.ptr 100004 0)), (28, (intA z14)), (29, (boolA (decide (z14 > (200000))))), (30, (boolA (decide (z14 > (200000))))), (31, (boolA false)), (32, (intA t16)), (33, (boolA (decide (t16 > (0))))), (34, (boolA false)), (35, (AV.tup [])), (36, (AV.tup [])), (37, (AV.tup [])), (38, (AV.tup [])), (39, (AV.tup [])), (40, (AV.tup [])), (41, (AV.tup [])), (42, (AV.tup [])), (43, (AV.tup [])), (44, (AV.tup [])), (45, (AV.tup [])), (46, (boolA false)), (47, (boolA false)), (48, (AV.ptr 100004 0)), (49, (AV.ptr 100004 1)), (50, (AV.agg [(intA z15), (intA z16)])), (51, (intA z28)), (5, (intA z28)), (52, (intA z28)), (53, (boolA (z28 != (0)))), (55, (AV.ptr 100004 0)), (56, (AV.ptr 100004 3)), (57, (intA z17)), (58, (boolA (decide (z17 < (0))))), (59, (boolA false)), (60, (AV.ptr 100004 0)), (61, (AV.ptr 100004 3)), (62, (intA z17)), (63, (boolA (decide (z17 > (60000))))), (64, (boolA (decide (z17 > (60000))))), (65, (boolA false)), (66, (AV.ptr 100004 4)), (67, (intA z18)), (68, (boolA (decide (z18 < (0))))), (69, (boolA (decide (z18 < (0))))), (70, (boolA false)), (71, (AV.ptr 100004 4)), (72, (intA z18)), (73, (boolA (decide (z18 > (1000000))))), (74, (boolA (decide (z18 > (1000000))))), (75, (boolA false)), (76, (AV.ptr 100004 5)), (77, (intA z19)), (78, (boolA (decide (z19 < (0))))), (79, (boolA (decide (z19 < (0))))), (80, (boolA false)), (81, (AV.ptr 100004 5)), (82, (intA z19)), (83, (boolA (decide (z19 > (60000))))), (84, (boolA (decide (z19 > (60000))))), (85, (intA (IntKind.wrap .i64 (t16 + (1)))))], ((100004, some ⟨[(intA z14), (intA z15), (intA z16), (intA z17), (intA z18), (intA z19)], 40⟩) :: (100004, some ⟨[(intA (0)), (intA (0)), (intA (0)), (intA (0)), (intA (0)), (intA (0))], 40⟩) :: m), 100136⟩))))))))))) else (
retL R m [some (intA (0))])
theorem B7_0_eq (t0 : AV) (t2 : Int) (t14 : AV) (t15 : Int) (t16 : Int) (m : Mem) (R : AV → Mem → Prop) (N0 : St → Prop) : W pg KK 86 0 c7_0 (h7_0 t0 t2 t14 t15 t16 m) (qq7_0 R N0) = B7_0 t0 t2 t14 t15 t16 m R N0 := by kernel_rfl
theorem L7_0 (R : AV → Mem → Prop) {σ : Type} (I : σ → Prop) (t0 : σ → AV) (t2 : σ → Int) (t14 : σ → AV) (t15 : σ → Int) (t16 : σ → Int) (m : σ → Mem) (μ : σ → Nat) (step : ∀ x, I x → B7_0 (t0 x) (t2 x) (t14 x) (t15 x) (t16 x) (m x) R (fun s' => ∃ y, I y ∧ μ y < μ x ∧ Weak KK 86 0 s' (h7_0 (t0 y) (t2 y) (t14 y) (t15 y) (t16 y) (m y)))) (x : σ) (hx : I x) {s : St} (hw : Weak KK 86 0 s (h7_0 (t0 x) (t2 x) (t14 x) (t15 x) (t16 x) (m x))) : Tri pg KK 86 0 (.loop c7_0) s (q7_0 R) :=
  Tri.weak hw (Tri.loops fol I (fun x => h7_0 (t0 x) (t2 x) (t14 x) (t15 x) (t16 x) (m x)) μ (fun x hx => (B7_0_eq (t0 x) (t2 x) (t14 x) (t15 x) (t16 x) (m x) R _).mpr (step x hx)) x hx)
noncomputable def F7 (a0 : AV) (R : AV → Mem → Prop) : Prop :=
opP (lenS a0) fun v0 =>
ex_i64 v0 fun z1 =>
bif (decide (z1 > (64))) then (
retL R [] [some (intA (2))]) else (
opP (lenS a0) fun v2 =>
ex_i64 v2 fun z3 =>
bif (z3 == (0)) then (
retL R [] [some (intA (3))]) else (
opP (lenS a0) fun v4 =>
ex_i64 v4 fun z5 =>
Tri pg KK 86 0 (.loop c7_0) ⟨[(0, a0), (2, (intA (0))), (7, a0), (8, (intA z1)), (9, (boolA (decide (z1 > (64))))), (6, (boolA (decide (z1 > (64))))), (11, a0), (12, (intA z3)), (13, (boolA (z3 == (0)))), (10, (boolA (z3 == (0)))), (14, a0), (15, (intA z5)), (16, (intA (0)))], [], 12⟩ (q7_0 R)))
theorem F7_own (a0 : AV) (R : AV → Mem → Prop) (h : F7 a0 R) : Own pg KK.gl 7 [a0] R := own_of_F fol Tryd.func7 (code := c7) (by kernel_rfl) (by kernel_rfl) (by kernel_rfl) (X := F7 a0 R) (by kernel_rfl) h
/- skyway/effect.Of$1 -/
noncomputable def c14 : Code := ((Tryd.f14).body).getD .skip
noncomputable def q14 (R : AV → Mem → Prop) : AExit → St → Prop := retQ pg Tryd.f14 R
noncomputable def F14 (a0 : AV) (R : AV → Mem → Prop) : Prop :=
opP (ldS (mget []) a0) fun v0 =>
callQ pg KK.gl [] 7 [v0] fun v1 =>
ex_i64 v1 fun z2 =>
retL R [] [some (intA z2)]
theorem F14_own (a0 : AV) (R : AV → Mem → Prop) (h : F14 a0 R) : Own pg KK.gl 14 [a0] R := own_of_F fol Tryd.func14 (code := c14) (by kernel_rfl) (by kernel_rfl) (by kernel_rfl) (X := F14 a0 R) (by kernel_rfl) h
/- skyway/chart.Name -/
noncomputable def c28 : Code := ((Tryd.f28).body).getD .skip
noncomputable def q28 (R : AV → Mem → Prop) : AExit → St → Prop := retQ pg Tryd.f28 R
noncomputable def c28_0 : Code := loopB c28 0
noncomputable def q28_0 (R : AV → Mem → Prop) : AExit → St → Prop := contW pg KK 41 0 c28 0 (q28 R)
noncomputable def qq28_0 (R : AV → Mem → Prop) (N0 : St → Prop) : AExit → St → Prop := thenQ N0 (q28_0 R)
def h28_0 (t2 : Bool) (t14 : AV) (t15 : Int) (t16 : Int) (m : Mem) : St := ⟨[(2, (boolA t2)), (14, t14), (15, (intA t15)), (16, (intA t16))], m, 100000⟩
noncomputable def B28_0 (t2 : Bool) (t14 : AV) (t15 : Int) (t16 : Int) (m : Mem) (R : AV → Mem → Prop) (N0 : St → Prop) : Prop :=
bif (decide (t16 < t15)) then (
opP (idxS 1 t14 (intA t16)) fun v7 =>
opP (ldS (mget m) v7) fun v8 =>
ex_u8 v8 fun z9 =>
bif (decide (z9 ≥ (65))) then (
bif (decide (z9 ≤ (90))) then (
N0 ⟨[(2, (boolA t2)), (14, t14), (15, (intA t15)), (16, (intA (IntKind.wrap .i64 (t16 + (1))))), (17, (boolA (decide (t16 < t15)))), (18, (intA t16)), (19, v7), (20, (AV.sc (.int .u8 z9))), (3, (intA t16)), (4, (AV.sc (.int .u8 z9))), (21, (AV.sc (.int .u8 z9))), (22, (boolA (decide (z9 ≥ (65))))), (23, (boolA true)), (24, (AV.sc (.int .u8 z9))), (25, (boolA (decide (z9 ≤ (90))))), (26, (boolA (decide (z9 ≤ (90))))), (27, (boolA true)), (28, (AV.tup [])), (29, (AV.tup [])), (30, (AV.tup [])), (31, (AV.tup [])), (32, (AV.tup [])), (33, (AV.tup [])), (34, (AV.tup [])), (35, (AV.tup [])), (36, (AV.tup [])), (37, (AV.tup [])), (38, (boolA true)), (39, (boolA false)), (40, (intA (IntKind.wrap .i64 (t16 + (1)))))], m, 100017⟩) else (
bif (decide (t16 > (0))) then (
bif (decide (z9 ≥ (48))) then (
bif (!(decide (z9 ≤ (57)))) then (
retL R m [some (boolA false)]) else (
N0 ⟨[(2, (boolA t2)), (14, t14), (15, (intA t15)), (16, (intA (IntKind.wrap .i64 (t16 + (1))))), (17, (boolA (decide (t16 < t15)))), (18, (intA t16)), (19, v7), (20, (AV.sc (.int .u8 z9))), (3, (intA t16)), (4, (AV.sc (.int .u8 z9))), (21, (AV.sc (.int .u8 z9))), (22, (boolA (decide (z9 ≥ (65))))), (23, (boolA true)), (24, (AV.sc (.int .u8 z9))), (25, (boolA (decide (z9 ≤ (90))))), (26, (boolA (decide (z9 ≤ (90))))), (27, (boolA false)), (28, (intA t16)), (29, (boolA (decide (t16 > (0))))), (30, (boolA true)), (31, (AV.sc (.int .u8 z9))), (32, (boolA (decide (z9 ≥ (48))))), (33, (boolA (decide (z9 ≥ (48))))), (34, (boolA true)), (35, (AV.sc (.int .u8 z9))), (36, (boolA (decide (z9 ≤ (57))))), (37, (boolA (decide (z9 ≤ (57))))), (38, (boolA (decide (z9 ≤ (57))))), (39, (boolA (!(decide (z9 ≤ (57)))))), (40, (intA (IntKind.wrap .i64 (t16 + (1)))))], m, 100027⟩)) else (
retL R m [some (boolA false)])) else (
retL R m [some (boolA false)]))) else (
bif (decide (t16 > (0))) then (
bif (decide (z9 ≥ (48))) then (
bif (!(decide (z9 ≤ (57)))) then (
retL R m [some (boolA false)]) else (
N0 ⟨[(2, (boolA t2)), (14, t14), (15, (intA t15)), (16, (intA (IntKind.wrap .i64 (t16 + (1))))), (17, (boolA (decide (t16 < t15)))), (18, (intA t16)), (19, v7), (20, (AV.sc (.int .u8 z9))), (3, (intA t16)), (4, (AV.sc (.int .u8 z9))), (21, (AV.sc (.int .u8 z9))), (22, (boolA (decide (z9 ≥ (65))))), (23, (boolA false)), (24, (AV.tup [])), (25, (AV.tup [])), (26, (boolA false)), (27, (boolA false)), (28, (intA t16)), (29, (boolA (decide (t16 > (0))))), (30, (boolA true)), (31, (AV.sc (.int .u8 z9))), (32, (boolA (decide (z9 ≥ (48))))), (33, (boolA (decide (z9 ≥ (48))))), (34, (boolA true)), (35, (AV.sc (.int .u8 z9))), (36, (boolA (decide (z9 ≤ (57))))), (37, (boolA (decide (z9 ≤ (57))))), (38, (boolA (decide (z9 ≤ (57))))), (39, (boolA (!(decide (z9 ≤ (57)))))), (40, (intA (IntKind.wrap .i64 (t16 + (1)))))], m, 100025⟩)) else (
retL R m [some (boolA false)])) else (
retL R m [some (boolA false)]))) else (
retL R m [some (boolA true)])
theorem B28_0_eq (t2 : Bool) (t14 : AV) (t15 : Int) (t16 : Int) (m : Mem) (R : AV → Mem → Prop) (N0 : St → Prop) : W pg KK 41 0 c28_0 (h28_0 t2 t14 t15 t16 m) (qq28_0 R N0) = B28_0 t2 t14 t15 t16 m R N0 := by kernel_rfl
theorem L28_0 (R : AV → Mem → Prop) {σ : Type} (I : σ → Prop) (t2 : σ → Bool) (t14 : σ → AV) (t15 : σ → Int) (t16 : σ → Int) (m : σ → Mem) (μ : σ → Nat) (step : ∀ x, I x → B28_0 (t2 x) (t14 x) (t15 x) (t16 x) (m x) R (fun s' => ∃ y, I y ∧ μ y < μ x ∧ Weak KK 41 0 s' (h28_0 (t2 y) (t14 y) (t15 y) (t16 y) (m y)))) (x : σ) (hx : I x) {s : St} (hw : Weak KK 41 0 s (h28_0 (t2 x) (t14 x) (t15 x) (t16 x) (m x))) : Tri pg KK 41 0 (.loop c28_0) s (q28_0 R) :=
  Tri.weak hw (Tri.loops fol I (fun x => h28_0 (t2 x) (t14 x) (t15 x) (t16 x) (m x)) μ (fun x hx => (B28_0_eq (t2 x) (t14 x) (t15 x) (t16 x) (m x) R _).mpr (step x hx)) x hx)
noncomputable def F28 (a0 : ByteArray) (R : AV → Mem → Prop) : Prop :=
opP (opA pg (.call ⟨.builtin .len, #[.tmp 0], #[9]⟩) 3 [(AV.sc (.string a0))] (mget []) 2) fun v0 =>
ex_i64 v0 fun z1 =>
bif (decide (z1 < (1))) then (
retL R [] [some (boolA false)]) else (
opP (opA pg (.call ⟨.builtin .len, #[.tmp 0], #[9]⟩) 3 [(AV.sc (.string a0))] (mget []) 6) fun v2 =>
ex_i64 v2 fun z3 =>
bif (decide (z3 > (8))) then (
retL R [] [some (boolA false)]) else (
opP (opA pg (.convert 9 76 (.tmp 0)) 76 [(AV.sc (.string a0))] (mget []) 10) fun v4 =>
opP (lenS v4) fun v5 =>
ex_i64 v5 fun z6 =>
Tri pg KK 41 0 (.loop c28_0) ⟨[(0, (AV.sc (.string a0))), (2, (boolA false)), (5, (AV.sc (.string a0))), (6, (intA z1)), (7, (boolA (decide (z1 < (1))))), (8, (boolA false)), (9, (AV.sc (.string a0))), (10, (intA z3)), (11, (boolA (decide (z3 > (8))))), (12, (boolA (decide (z3 > (8))))), (13, (AV.sc (.string a0))), (14, v4), (15, (intA z6)), (16, (intA (0)))], [], 13⟩ (q28_0 R)))
theorem F28_own (a0 : ByteArray) (R : AV → Mem → Prop) (h : F28 a0 R) : Own pg KK.gl 28 [(AV.sc (.string a0))] R := own_of_F fol Tryd.func28 (code := c28) (by kernel_rfl) (by kernel_rfl) (by kernel_rfl) (X := F28 a0 R) (by kernel_rfl) h
/- slices.Index[[]string,string] -/
noncomputable def c48 : Code := ((Tryd.f48).body).getD .skip
noncomputable def q48 (R : AV → Mem → Prop) : AExit → St → Prop := retQ pg Tryd.f48 R
noncomputable def c48_0 : Code := loopB c48 0
noncomputable def q48_0 (R : AV → Mem → Prop) : AExit → St → Prop := contW pg KK 19 0 c48 0 (q48 R)
noncomputable def qq48_0 (R : AV → Mem → Prop) (N0 : St → Prop) : AExit → St → Prop := thenQ N0 (q48_0 R)
def h48_0 (t0 : AV) (t1 : ByteArray) (t4 : Int) (t7 : Int) (t8 : Int) (m : Mem) : St := ⟨[(0, t0), (1, (AV.sc (.string t1))), (4, (intA t4)), (7, (intA t7)), (8, (intA t8))], m, 100000⟩
noncomputable def B48_0 (t0 : AV) (t1 : ByteArray) (t4 : Int) (t7 : Int) (t8 : Int) (m : Mem) (R : AV → Mem → Prop) (N0 : St → Prop) : Prop :=
bif (decide (t8 < t7)) then (
opP (idxS 1 t0 (intA t8)) fun v2 =>
opP (ldS (mget m) v2) fun v3 =>
exStr v3 fun s4 =>
bif ((t1).toList == (s4).toList) then (
retL R m [some (intA t8)]) else (
N0 ⟨[(0, t0), (1, (AV.sc (.string t1))), (4, (intA t4)), (7, (intA t7)), (8, (intA (IntKind.wrap .i64 (t8 + (1))))), (9, (boolA (decide (t8 < t7)))), (10, (intA t8)), (5, (intA t8)), (11, (AV.sc (.string t1))), (12, t0), (13, (intA t8)), (14, v2), (15, (AV.sc (.string s4))), (16, (boolA ((t1).toList == (s4).toList))), (18, (intA (IntKind.wrap .i64 (t8 + (1)))))], m, 100011⟩)) else (
retL R m [some (intA (-1))])
theorem B48_0_eq (t0 : AV) (t1 : ByteArray) (t4 : Int) (t7 : Int) (t8 : Int) (m : Mem) (R : AV → Mem → Prop) (N0 : St → Prop) : W pg KK 19 0 c48_0 (h48_0 t0 t1 t4 t7 t8 m) (qq48_0 R N0) = B48_0 t0 t1 t4 t7 t8 m R N0 := by kernel_rfl
theorem L48_0 (R : AV → Mem → Prop) {σ : Type} (I : σ → Prop) (t0 : σ → AV) (t1 : σ → ByteArray) (t4 : σ → Int) (t7 : σ → Int) (t8 : σ → Int) (m : σ → Mem) (μ : σ → Nat) (step : ∀ x, I x → B48_0 (t0 x) (t1 x) (t4 x) (t7 x) (t8 x) (m x) R (fun s' => ∃ y, I y ∧ μ y < μ x ∧ Weak KK 19 0 s' (h48_0 (t0 y) (t1 y) (t4 y) (t7 y) (t8 y) (m y)))) (x : σ) (hx : I x) {s : St} (hw : Weak KK 19 0 s (h48_0 (t0 x) (t1 x) (t4 x) (t7 x) (t8 x) (m x))) : Tri pg KK 19 0 (.loop c48_0) s (q48_0 R) :=
  Tri.weak hw (Tri.loops fol I (fun x => h48_0 (t0 x) (t1 x) (t4 x) (t7 x) (t8 x) (m x)) μ (fun x hx => (B48_0_eq (t0 x) (t1 x) (t4 x) (t7 x) (t8 x) (m x) R _).mpr (step x hx)) x hx)
noncomputable def F48 (a0 : AV) (a1 : ByteArray) (R : AV → Mem → Prop) : Prop :=
opP (lenS a0) fun v0 =>
ex_i64 v0 fun z1 =>
Tri pg KK 19 0 (.loop c48_0) ⟨[(0, a0), (1, (AV.sc (.string a1))), (4, (intA (0))), (6, a0), (7, (intA z1)), (8, (intA (0)))], [], 4⟩ (q48_0 R)
theorem F48_own (a0 : AV) (a1 : ByteArray) (R : AV → Mem → Prop) (h : F48 a0 a1 R) : Own pg KK.gl 48 [a0, (AV.sc (.string a1))] R := own_of_F fol Tryd.func48 (code := c48) (by kernel_rfl) (by kernel_rfl) (by kernel_rfl) (X := F48 a0 a1 R) (by kernel_rfl) h
/- skyway/phrase.kind -/
noncomputable def c39 : Code := ((Tryd.f39).body).getD .skip
noncomputable def q39 (R : AV → Mem → Prop) : AExit → St → Prop := retQ pg Tryd.f39 R
noncomputable def F39 (a0 : ByteArray) (R : AV → Mem → Prop) : Prop :=
opP (opA pg (.slice 88 (.tmp 0) none none none) 87 [(gval 1)] (mget []) 1) fun v0 =>
callQ pg KK.gl [] 48 [v0, (AV.sc (.string a0))] fun v1 =>
ex_i64 v1 fun z2 =>
retL R [] [some (intA z2)]
theorem F39_own (a0 : ByteArray) (R : AV → Mem → Prop) (h : F39 a0 R) : Own pg KK.gl 39 [(AV.sc (.string a0))] R := own_of_F fol Tryd.func39 (code := c39) (by kernel_rfl) (by kernel_rfl) (by kernel_rfl) (X := F39 a0 R) (by kernel_rfl) h
/- skyway/phrase.name -/
noncomputable def c26 : Code := ((Tryd.f26).body).getD .skip
noncomputable def q26 (R : AV → Mem → Prop) : AExit → St → Prop := retQ pg Tryd.f26 R
noncomputable def F26 (a0 : ByteArray) (R : AV → Mem → Prop) : Prop :=
callQ pg KK.gl [] 28 [(AV.sc (.string a0))] fun v0 =>
exB v0 fun b1 =>
bif b1 then (
callQ pg KK.gl [] 39 [(AV.sc (.string a0))] fun v2 =>
ex_i64 v2 fun z3 =>
retL R [] [some (boolA (decide (z3 < (0))))]) else (
retL R [] [some (boolA false)])
theorem F26_own (a0 : ByteArray) (R : AV → Mem → Prop) (h : F26 a0 R) : Own pg KK.gl 26 [(AV.sc (.string a0))] R := own_of_F fol Tryd.func26 (code := c26) (by kernel_rfl) (by kernel_rfl) (by kernel_rfl) (X := F26 a0 R) (by kernel_rfl) h
/- skyway/phrase.Check -/
noncomputable def c16 : Code := ((Tryd.f16).body).getD .skip
noncomputable def q16 (R : AV → Mem → Prop) : AExit → St → Prop := retQ pg Tryd.f16 R
noncomputable def F16 (a0_0 : ByteArray) (a0_1 : Int) (a0_2 : Int) (a0_3 : ByteArray) (R : AV → Mem → Prop) : Prop :=
callQ pg KK.gl ((0, some ⟨[(AV.sc (.string a0_0)), (intA a0_1), (intA a0_2), (AV.sc (.string a0_3))], 25⟩) :: []) 26 [(AV.sc (.string a0_0))] fun v0 =>
exB v0 fun b1 =>
bif (!b1) then (
retL R ((0, some ⟨[(AV.sc (.string a0_0)), (intA a0_1), (intA a0_2), (AV.sc (.string a0_3))], 25⟩) :: []) [some (intA (3))]) else (
bif (decide (a0_1 < (0))) then (
retL R ((0, some ⟨[(AV.sc (.string a0_0)), (intA a0_1), (intA a0_2), (AV.sc (.string a0_3))], 25⟩) :: []) [some (intA (1))]) else (
bif (decide (a0_1 > (6))) then (
retL R ((0, some ⟨[(AV.sc (.string a0_0)), (intA a0_1), (intA a0_2), (AV.sc (.string a0_3))], 25⟩) :: []) [some (intA (1))]) else (
bif (decide (a0_1 > (2))) then (
bif (a0_2 != (0)) then (
retL R ((0, some ⟨[(AV.sc (.string a0_0)), (intA a0_1), (intA a0_2), (AV.sc (.string a0_3))], 25⟩) :: []) [some (intA (3))]) else (
callQ pg KK.gl ((0, some ⟨[(AV.sc (.string a0_0)), (intA a0_1), (intA a0_2), (AV.sc (.string a0_3))], 25⟩) :: []) 26 [(AV.sc (.string a0_3))] fun v2 =>
exB v2 fun b3 =>
bif (!b3) then (
retL R ((0, some ⟨[(AV.sc (.string a0_0)), (intA a0_1), (intA a0_2), (AV.sc (.string a0_3))], 25⟩) :: []) [some (intA (3))]) else (
retL R ((0, some ⟨[(AV.sc (.string a0_0)), (intA a0_1), (intA a0_2), (AV.sc (.string a0_3))], 25⟩) :: []) [some (intA (0))]))) else (
bif (!((a0_3).toList == ((⟨#[]⟩ : ByteArray)).toList)) then (
retL R ((0, some ⟨[(AV.sc (.string a0_0)), (intA a0_1), (intA a0_2), (AV.sc (.string a0_3))], 25⟩) :: []) [some (intA (3))]) else (
bif (decide (a0_2 < (0))) then (
retL R ((0, some ⟨[(AV.sc (.string a0_0)), (intA a0_1), (intA a0_2), (AV.sc (.string a0_3))], 25⟩) :: []) [some (intA (4))]) else (
opP (idxA 3 1 (gval 0) (intA a0_1)) fun v4 =>
opP (ldS (mget ((0, some ⟨[(AV.sc (.string a0_0)), (intA a0_1), (intA a0_2), (AV.sc (.string a0_3))], 25⟩) :: [])) v4) fun v5 =>
ex_i64 v5 fun z6 =>
bif (decide (a0_2 > z6)) then (
retL R ((0, some ⟨[(AV.sc (.string a0_0)), (intA a0_1), (intA a0_2), (AV.sc (.string a0_3))], 25⟩) :: []) [some (intA (4))]) else (
retL R ((0, some ⟨[(AV.sc (.string a0_0)), (intA a0_1), (intA a0_2), (AV.sc (.string a0_3))], 25⟩) :: []) [some (intA (0))])))))))
theorem F16_own (a0_0 : ByteArray) (a0_1 : Int) (a0_2 : Int) (a0_3 : ByteArray) (R : AV → Mem → Prop) (h : F16 a0_0 a0_1 a0_2 a0_3 R) : Own pg KK.gl 16 [(AV.agg [(AV.sc (.string a0_0)), (intA a0_1), (intA a0_2), (AV.sc (.string a0_3))])] R := own_of_F fol Tryd.func16 (code := c16) (by kernel_rfl) (by kernel_rfl) (by kernel_rfl) (X := F16 a0_0 a0_1 a0_2 a0_3 R) (by kernel_rfl) h
/- skyway/effect.Of$2 -/
noncomputable def c15 : Code := ((Tryd.f15).body).getD .skip
noncomputable def q15 (R : AV → Mem → Prop) : AExit → St → Prop := retQ pg Tryd.f15 R
noncomputable def F15 (a0 : AV) (R : AV → Mem → Prop) : Prop :=
opP (ldA (mget []) 4 a0) fun v0 =>
exA4 v0 fun c1 c2 c3 c4 =>
exStr c1 fun s5 =>
ex_i64 c2 fun z6 =>
ex_i64 c3 fun z7 =>
exStr c4 fun s8 =>
callQ pg KK.gl [] 16 [(AV.agg [(AV.sc (.string s5)), (intA z6), (intA z7), (AV.sc (.string s8))])] fun v9 =>
ex_i64 v9 fun z10 =>
retL R [] [some (intA z10)]
theorem F15_own (a0 : AV) (R : AV → Mem → Prop) (h : F15 a0 R) : Own pg KK.gl 15 [a0] R := own_of_F fol Tryd.func15 (code := c15) (by kernel_rfl) (by kernel_rfl) (by kernel_rfl) (X := F15 a0 R) (by kernel_rfl) h
/- skyway/aircraft.Check$1 -/
noncomputable def c27 : Code := ((Tryd.f27).body).getD .skip
noncomputable def q27 (R : AV → Mem → Prop) : AExit → St → Prop := retQ pg Tryd.f27 R
noncomputable def F27 (a0 : Int) (a1 : Int) (R : AV → Mem → Prop) : Prop :=
bif (decide (a0 < (1))) then (
retL R [] [some (boolA true)]) else (
retL R [] [some (boolA (decide (a0 > a1)))])
theorem F27_own (a0 : Int) (a1 : Int) (R : AV → Mem → Prop) (h : F27 a0 a1 R) : Own pg KK.gl 27 [(intA a0), (intA a1)] R := own_of_F fol Tryd.func27 (code := c27) (by kernel_rfl) (by kernel_rfl) (by kernel_rfl) (X := F27 a0 a1 R) (by kernel_rfl) h
/- skyway/aircraft.Check -/
noncomputable def c18 : Code := ((Tryd.f18).body).getD .skip
noncomputable def q18 (R : AV → Mem → Prop) : AExit → St → Prop := retQ pg Tryd.f18 R
noncomputable def F18 (a0_0 : ByteArray) (a0_1 : Int) (a0_2 : Int) (a0_3 : Int) (a0_4 : Int) (a0_5 : Int) (a0_6 : Int) (R : AV → Mem → Prop) : Prop :=
callQ pg KK.gl ((0, some ⟨[(AV.sc (.string a0_0)), (intA a0_1), (intA a0_2), (intA a0_3), (intA a0_4), (intA a0_5), (intA a0_6)], 27⟩) :: []) 28 [(AV.sc (.string a0_0))] fun v0 =>
exB v0 fun b1 =>
bif (!b1) then (
retL R ((0, some ⟨[(AV.sc (.string a0_0)), (intA a0_1), (intA a0_2), (intA a0_3), (intA a0_4), (intA a0_5), (intA a0_6)], 27⟩) :: []) [some (intA (5))]) else (
bif (decide (a0_1 < (0))) then (
retL R ((0, some ⟨[(AV.sc (.string a0_0)), (intA a0_1), (intA a0_2), (intA a0_3), (intA a0_4), (intA a0_5), (intA a0_6)], 27⟩) :: []) [some (intA (1))]) else (
bif (decide (a0_1 > (3))) then (
retL R ((0, some ⟨[(AV.sc (.string a0_0)), (intA a0_1), (intA a0_2), (intA a0_3), (intA a0_4), (intA a0_5), (intA a0_6)], 27⟩) :: []) [some (intA (1))]) else (
callQ pg KK.gl ((0, some ⟨[(AV.sc (.string a0_0)), (intA a0_1), (intA a0_2), (intA a0_3), (intA a0_4), (intA a0_5), (intA a0_6)], 27⟩) :: []) 27 [(intA a0_2), (intA (60000))] fun v2 =>
exB v2 fun b3 =>
bif b3 then (
retL R ((0, some ⟨[(AV.sc (.string a0_0)), (intA a0_1), (intA a0_2), (intA a0_3), (intA a0_4), (intA a0_5), (intA a0_6)], 27⟩) :: []) [some (intA (4))]) else (
callQ pg KK.gl ((0, some ⟨[(AV.sc (.string a0_0)), (intA a0_1), (intA a0_2), (intA a0_3), (intA a0_4), (intA a0_5), (intA a0_6)], 27⟩) :: []) 27 [(intA a0_3), (intA (200))] fun v4 =>
exB v4 fun b5 =>
bif b5 then (
retL R ((0, some ⟨[(AV.sc (.string a0_0)), (intA a0_1), (intA a0_2), (intA a0_3), (intA a0_4), (intA a0_5), (intA a0_6)], 27⟩) :: []) [some (intA (4))]) else (
callQ pg KK.gl ((0, some ⟨[(AV.sc (.string a0_0)), (intA a0_1), (intA a0_2), (intA a0_3), (intA a0_4), (intA a0_5), (intA a0_6)], 27⟩) :: []) 27 [(intA a0_4), (intA (200))] fun v6 =>
exB v6 fun b7 =>
bif b7 then (
retL R ((0, some ⟨[(AV.sc (.string a0_0)), (intA a0_1), (intA a0_2), (intA a0_3), (intA a0_4), (intA a0_5), (intA a0_6)], 27⟩) :: []) [some (intA (4))]) else (
callQ pg KK.gl ((0, some ⟨[(AV.sc (.string a0_0)), (intA a0_1), (intA a0_2), (intA a0_3), (intA a0_4), (intA a0_5), (intA a0_6)], 27⟩) :: []) 27 [(intA a0_5), (intA (400))] fun v8 =>
exB v8 fun b9 =>
bif b9 then (
retL R ((0, some ⟨[(AV.sc (.string a0_0)), (intA a0_1), (intA a0_2), (intA a0_3), (intA a0_4), (intA a0_5), (intA a0_6)], 27⟩) :: []) [some (intA (4))]) else (
callQ pg KK.gl ((0, some ⟨[(AV.sc (.string a0_0)), (intA a0_1), (intA a0_2), (intA a0_3), (intA a0_4), (intA a0_5), (intA a0_6)], 27⟩) :: []) 27 [(intA a0_6), (intA (400))] fun v10 =>
exB v10 fun b11 =>
bif b11 then (
retL R ((0, some ⟨[(AV.sc (.string a0_0)), (intA a0_1), (intA a0_2), (intA a0_3), (intA a0_4), (intA a0_5), (intA a0_6)], 27⟩) :: []) [some (intA (4))]) else (
bif (decide (a0_5 > a0_6)) then (
retL R ((0, some ⟨[(AV.sc (.string a0_0)), (intA a0_1), (intA a0_2), (intA a0_3), (intA a0_4), (intA a0_5), (intA a0_6)], 27⟩) :: []) [some (intA (3))]) else (
retL R ((0, some ⟨[(AV.sc (.string a0_0)), (intA a0_1), (intA a0_2), (intA a0_3), (intA a0_4), (intA a0_5), (intA a0_6)], 27⟩) :: []) [some (intA (0))])))))))))
theorem F18_own (a0_0 : ByteArray) (a0_1 : Int) (a0_2 : Int) (a0_3 : Int) (a0_4 : Int) (a0_5 : Int) (a0_6 : Int) (R : AV → Mem → Prop) (h : F18 a0_0 a0_1 a0_2 a0_3 a0_4 a0_5 a0_6 R) : Own pg KK.gl 18 [(AV.agg [(AV.sc (.string a0_0)), (intA a0_1), (intA a0_2), (intA a0_3), (intA a0_4), (intA a0_5), (intA a0_6)])] R := own_of_F fol Tryd.func18 (code := c18) (by kernel_rfl) (by kernel_rfl) (by kernel_rfl) (X := F18 a0_0 a0_1 a0_2 a0_3 a0_4 a0_5 a0_6 R) (by kernel_rfl) h
/- skyway/effect.Of$3 -/
noncomputable def c17 : Code := ((Tryd.f17).body).getD .skip
noncomputable def q17 (R : AV → Mem → Prop) : AExit → St → Prop := retQ pg Tryd.f17 R
noncomputable def F17 (a0 : AV) (R : AV → Mem → Prop) : Prop :=
opP (ldA (mget []) 7 a0) fun v0 =>
exA7 v0 fun c1 c2 c3 c4 c5 c6 c7 =>
exStr c1 fun s8 =>
ex_i64 c2 fun z9 =>
ex_i64 c3 fun z10 =>
ex_i64 c4 fun z11 =>
ex_i64 c5 fun z12 =>
ex_i64 c6 fun z13 =>
ex_i64 c7 fun z14 =>
callQ pg KK.gl [] 18 [(AV.agg [(AV.sc (.string s8)), (intA z9), (intA z10), (intA z11), (intA z12), (intA z13), (intA z14)])] fun v15 =>
ex_i64 v15 fun z16 =>
retL R [] [some (intA z16)]
theorem F17_own (a0 : AV) (R : AV → Mem → Prop) (h : F17 a0 R) : Own pg KK.gl 17 [a0] R := own_of_F fol Tryd.func17 (code := c17) (by kernel_rfl) (by kernel_rfl) (by kernel_rfl) (X := F17 a0 R) (by kernel_rfl) h
/- skyway/effect.Of$4 -/
noncomputable def c19 : Code := ((Tryd.f19).body).getD .skip
noncomputable def q19 (R : AV → Mem → Prop) : AExit → St → Prop := retQ pg Tryd.f19 R
noncomputable def F19 (a0 : AV) (R : AV → Mem → Prop) : Prop :=
opP (ldA (mget []) 2 a0) fun v0 =>
exA2 v0 fun c1 c2 =>
ex_i64 c1 fun z3 =>
ex_i64 c2 fun z4 =>
callQ pg KK.gl [] 20 [(AV.agg [(intA z3), (intA z4)])] fun v5 =>
ex_i64 v5 fun z6 =>
retL R [] [some (intA z6)]
theorem F19_own (a0 : AV) (R : AV → Mem → Prop) (h : F19 a0 R) : Own pg KK.gl 19 [a0] R := own_of_F fol Tryd.func19 (code := c19) (by kernel_rfl) (by kernel_rfl) (by kernel_rfl) (X := F19 a0 R) (by kernel_rfl) h
/- skyway/tube.ends -/
noncomputable def c24 : Code := ((Tryd.f24).body).getD .skip
noncomputable def q24 (R : AV → Mem → Prop) : AExit → St → Prop := retQ pg Tryd.f24 R
noncomputable def F24 (a0 : AV) (R : AV → Mem → Prop) : Prop :=
opP (idxS 6 a0 (intA (0))) fun v0 =>
opP (fldO 0 v0) fun v1 =>
opP (fldO 0 v1) fun v2 =>
opP (ldS (mget []) v2) fun v3 =>
ex_i64 v3 fun z4 =>
opP (lenS a0) fun v5 =>
ex_i64 v5 fun z6 =>
opP (idxS 6 a0 (intA (IntKind.wrap .i64 (z6 - (1))))) fun v7 =>
opP (fldO 0 v7) fun v8 =>
opP (fldO 0 v8) fun v9 =>
opP (ldS (mget []) v9) fun v10 =>
ex_i64 v10 fun z11 =>
retL R [] [some (intA z4), some (intA z11)]
theorem F24_own (a0 : AV) (R : AV → Mem → Prop) (h : F24 a0 R) : Own pg KK.gl 24 [a0] R := own_of_F fol Tryd.func24 (code := c24) (by kernel_rfl) (by kernel_rfl) (by kernel_rfl) (X := F24 a0 R) (by kernel_rfl) h
/- skyway/tube.at$1 -/
noncomputable def c35 : Code := ((Tryd.f35).body).getD .skip
noncomputable def q35 (R : AV → Mem → Prop) : AExit → St → Prop := retQ pg Tryd.f35 R
noncomputable def F35 (a0_0 : Int) (a0_1 : Int) (a0_2 : Int) (a0_3 : Int) (a0_4 : Int) (a0_5 : Int) (a1 : Int) (R : AV → Mem → Prop) : Prop :=
retL R ((0, some ⟨[(intA a0_0), (intA a0_1), (intA a0_2), (intA a0_3), (intA a0_4), (intA a0_5)], 40⟩) :: []) [some (intA (IntKind.wrap .i64 (a0_0 - a1)))]
theorem F35_own (a0_0 : Int) (a0_1 : Int) (a0_2 : Int) (a0_3 : Int) (a0_4 : Int) (a0_5 : Int) (a1 : Int) (R : AV → Mem → Prop) (h : F35 a0_0 a0_1 a0_2 a0_3 a0_4 a0_5 a1 R) : Own pg KK.gl 35 [(AV.agg [(intA a0_0), (intA a0_1), (intA a0_2), (intA a0_3), (intA a0_4), (intA a0_5)]), (intA a1)] R := own_of_F fol Tryd.func35 (code := c35) (by kernel_rfl) (by kernel_rfl) (by kernel_rfl) (X := F35 a0_0 a0_1 a0_2 a0_3 a0_4 a0_5 a1 R) (by kernel_rfl) h
end Go.Proofs.YtbbfpbngnkjkdaaDoor
